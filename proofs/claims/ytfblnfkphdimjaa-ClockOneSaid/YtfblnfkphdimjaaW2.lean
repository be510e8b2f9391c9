/- The walks. No condition. -/
import Derived.Test.YtfblnfkphdimjaaChecked
import Derived.Test.YtfblnfkphdimjaaGwJoin
import Derived.Test.YtfblnfkphdimjaaFacts
import Derived.Test.YtfblnfkphdimjaaPlain
import Derived.Test.YtfblnfkphdimjaaW1
namespace Go.Proofs.Ytfblnfkphdimjaa
open Go Go.Gw
set_option linter.unusedVariables false
set_option linter.unusedSimpArgs false
/-- foyer/clock.Agree$1 -/
theorem bad_spec {M : Nat → Prop} {u0 : World} {l : List Atom} (r : Rd) (b1 b2 : Nat) (va vb : Value) (xs ys : List Int) (w0 : World) (h0 : HSat M u0 (Cel b1 40 [va] :: Cel b2 40 [vb] :: OSl 3 va 1 encI (xs) :: OSl 3 vb 1 encI (ys) :: l) w0) (hx : xs.length ≤ 1000000) (hy : ys.length ≤ 1000000) :
    Ret Try.prog 18 #[.agg (Rd.enc r).toArray, .pointer (some ⟨b1, 0, none⟩), .pointer (some ⟨b2, 0, none⟩)] w0 (fun v w => v = .bool ((bnd r).2.2 != 0) ∧ ∃ va' vb', HSat M u0 (Cel b1 40 [va'] :: Cel b2 40 [vb'] :: OSl 3 va' 1 encI (xs ++ [(bnd r).1]) :: OSl 3 vb' 1 encI (ys ++ [(bnd r).2.1]) :: l) w) := by
  refine ret_of_wp (n := 24) Try.func18 rfl rfl rfl (fl := [(0, .agg (Rd.enc r).toArray), (1, .pointer (some ⟨b1, 0, none⟩)), (2, .pointer (some ⟨b2, 0, none⟩))]) rfl (fun a S => ?_)
  have H := h0
  refine wp_seq ?_
  -- region 0 clock.go:35
  refine wp_region_lit ?_
  refine wl_of (op_boxa (wn rfl) rfl rfl rfl S H rfl fun b3 a w S H => ?_)
  refine wl_of (op_y (wn rfl) rfl rfl S (y_assign rfl S rfl) fun a S => ?_)
  refine wpList_nil ?_
  refine n_then ?_
  refine wp_seq ?_
  -- region 1 clock.go:36
  refine wp_region_lit ?_
  refine wl_of (op_y (wn rfl) rfl rfl S (y_load0 rfl S H rfl (by exact Fagg23)) fun a S => ?_)
  refine wl_of (op_call (wn rfl) rfl rfl S (co_func rfl Try.call10 S rfl) (bounds_spec _ _) fun v w hc a S => ?_)
  obtain ⟨rfl, he⟩ := hc
  have H := H.ext he
  refine wl_of (op_y (wn rfl) rfl rfl S (y_move rfl S rfl) fun a S => ?_)
  refine wl_of (op_y (wn rfl) rfl rfl S (y_extract rfl S rfl rfl) fun a S => ?_)
  refine wl_of (op_y (wn rfl) rfl rfl S (y_extract rfl S rfl rfl) fun a S => ?_)
  refine wl_of (op_y (wn rfl) rfl rfl S (y_extract rfl S rfl rfl) fun a S => ?_)
  refine wl_of (op_y (wn rfl) rfl rfl S (y_assign rfl S rfl) fun a S => ?_)
  refine wl_of (op_y (wn rfl) rfl rfl S (y_assign rfl S rfl) fun a S => ?_)
  refine wl_of (op_y (wn rfl) rfl rfl S (y_assign rfl S rfl) fun a S => ?_)
  refine wpList_nil ?_
  refine n_then ?_
  have S := (((((S.nil.cons S 2 rfl).cons S 1 rfl).cons S 4 rfl).cons S 5 rfl).cons S 6 rfl).cons S 7 rfl
  refine wp_seq ?_
  -- region 2 DRAWS clock.go:37
  -- several orders
  refine cut (fun a w => ∃ u17 u21, St 24 [(7, .int .i64 (bnd r).2.2)] a ∧ HSat M u0 (Cel b1 40 [u17] :: Cel b2 40 [u21] :: OSl 3 u17 1 encI (xs ++ [(bnd r).1]) :: OSl 3 u21 1 encI (ys ++ [(bnd r).2.1]) :: l) w) ?_ ?_
  · skip
    refine t_st (tails := [3, 7, 8, 9]) Fmo H ?_
    refine t_q 0 rfl (by kernel_rfl) (rem' := [1, 2, 3, 4, 5, 6, 7, 8, 9]) rfl rfl rfl rfl S (fun w H => y_load rfl Fsca40 S H rfl rfl) fun a S => ?_
    refine t_q 1 rfl (by kernel_rfl) (rem' := [2, 3, 4, 5, 6, 7, 8, 9]) rfl rfl rfl rfl S (fun w H => y_move rfl S rfl) fun a S => ?_
    refine t_p 5 rfl (by kernel_rfl) (rem' := [2, 3, 4, 6, 7, 8, 9]) rfl rfl rfl rfl S (fun w => y_move rfl S rfl) fun a S => ?_
    refine t_b [2, 4, 6] (by kernel_rfl) rfl ?_
    intro i hi; simp only [List.mem_cons, List.not_mem_nil, or_false] at hi; rcases hi with rfl | rfl | rfl
    · refine ⟨_, rfl, fun w H => ?_⟩
      refine op_buildSlice (wn rfl) rfl rfl rfl Try.underlying40 Finf3 S H (idx := [0]) rfl rfl rfl (z := [.int .i64 0]) (by kernel_rfl) (cs := [_]) rfl fun b16 a w S H => ?_
      refine t_next H (by repeat (first | exact List.Sublist.refl _ | apply List.Sublist.cons)) (rem' := [3, 4, 6, 7, 8, 9]) rfl ?_
      refine t_b [3, 4, 6] (by kernel_rfl) rfl ?_
      intro i hi; simp only [List.mem_cons, List.not_mem_nil, or_false] at hi; rcases hi with rfl | rfl | rfl
      · refine ⟨_, rfl, fun w H => ?_⟩
        refine op_append ([(bnd r).1]) (wn rfl) rfl rfl rfl Try.underlying40 Finf3 rfl rfl S H rfl rfl rfl rfl (by simp) (by simp [encI]) (by simp [encI, Value.oneCell']) (by simp only [List.length_cons, List.length_nil]; omega) (by simp only [List.length_cons, List.length_nil]; omega) fun u17 a w hn17 S H => ?_
        refine t_tail H rfl (rem' := [4, 6, 7, 8, 9]) rfl ?_
        refine t_q 4 rfl (by kernel_rfl) (rem' := [6, 7, 8, 9]) rfl rfl rfl rfl S (fun w H => y_load rfl Fsca40 S H rfl rfl) fun a S => ?_
        refine t_b [6] (by kernel_rfl) rfl ?_
        intro i hi; simp only [List.mem_cons, List.not_mem_nil, or_false] at hi; subst hi
        · refine ⟨_, rfl, fun w H => ?_⟩
          refine op_buildSlice (wn rfl) rfl rfl rfl Try.underlying40 Finf3 S H (idx := [0]) rfl rfl rfl (z := [.int .i64 0]) (by kernel_rfl) (cs := [_]) rfl fun b20 a w S H => ?_
          refine t_next H (by repeat (first | exact List.Sublist.refl _ | apply List.Sublist.cons)) (rem' := [7, 8, 9]) rfl ?_
          refine t_b [7] (by kernel_rfl) rfl ?_
          intro i hi; simp only [List.mem_cons, List.not_mem_nil, or_false] at hi; subst hi
          · refine ⟨_, rfl, fun w H => ?_⟩
            refine op_append ([(bnd r).2.1]) (wn rfl) rfl rfl rfl Try.underlying40 Finf3 rfl rfl S H rfl rfl rfl rfl (by simp) (by simp [encI]) (by simp [encI, Value.oneCell']) (by simp only [List.length_cons, List.length_nil]; omega) (by simp only [List.length_cons, List.length_nil]; omega) fun u21 a w hn21 S H => ?_
            refine t_tail H rfl (rem' := [8, 9]) rfl ?_
            refine t_b [8] (by kernel_rfl) rfl ?_
            intro i hi; simp only [List.mem_cons, List.not_mem_nil, or_false] at hi; subst hi
            · refine ⟨_, rfl, fun w H => ?_⟩
              refine op_store (wn rfl) rfl rfl S H rfl rfl (H.sl1 _) Fsiz40 rfl fun a w S H => ?_
              dsimp only [List.set] at H
              refine t_tail H rfl (rem' := [9]) rfl ?_
              refine t_b [9] (by kernel_rfl) rfl ?_
              intro i hi; simp only [List.mem_cons, List.not_mem_nil, or_false] at hi; subst hi
              · refine ⟨_, rfl, fun w H => ?_⟩
                refine op_store (wn rfl) rfl rfl S H rfl rfl (H.sl1 _) Fsiz40 rfl fun a w S H => ?_
                dsimp only [List.set] at H
                refine t_tail H rfl (rem' := []) rfl ?_
                refine t_nil (fun w H => ?_)
                exact ⟨_, _, S.nil.cons S 7 rfl, H.drop 3⟩
      · refine ⟨_, rfl, fun w H => ?_⟩
        refine op_y (wn rfl) rfl rfl S (y_load rfl Fsca40 S H rfl rfl) fun a S => ?_
        refine t_next H (by repeat (first | exact List.Sublist.refl _ | apply List.Sublist.cons)) (rem' := [3, 6, 7, 8, 9]) rfl ?_
        refine t_b [3, 6] (by kernel_rfl) rfl ?_
        intro i hi; simp only [List.mem_cons, List.not_mem_nil, or_false] at hi; rcases hi with rfl | rfl
        · refine ⟨_, rfl, fun w H => ?_⟩
          refine op_append ([(bnd r).1]) (wn rfl) rfl rfl rfl Try.underlying40 Finf3 rfl rfl S H rfl rfl rfl rfl (by simp) (by simp [encI]) (by simp [encI, Value.oneCell']) (by simp only [List.length_cons, List.length_nil]; omega) (by simp only [List.length_cons, List.length_nil]; omega) fun u17 a w hn17 S H => ?_
          refine t_tail H rfl (rem' := [6, 7, 8, 9]) rfl ?_
          refine t_b [6] (by kernel_rfl) rfl ?_
          intro i hi; simp only [List.mem_cons, List.not_mem_nil, or_false] at hi; subst hi
          · refine ⟨_, rfl, fun w H => ?_⟩
            refine op_buildSlice (wn rfl) rfl rfl rfl Try.underlying40 Finf3 S H (idx := [0]) rfl rfl rfl (z := [.int .i64 0]) (by kernel_rfl) (cs := [_]) rfl fun b20 a w S H => ?_
            refine t_next H (by repeat (first | exact List.Sublist.refl _ | apply List.Sublist.cons)) (rem' := [7, 8, 9]) rfl ?_
            refine t_b [7] (by kernel_rfl) rfl ?_
            intro i hi; simp only [List.mem_cons, List.not_mem_nil, or_false] at hi; subst hi
            · refine ⟨_, rfl, fun w H => ?_⟩
              refine op_append ([(bnd r).2.1]) (wn rfl) rfl rfl rfl Try.underlying40 Finf3 rfl rfl S H rfl rfl rfl rfl (by simp) (by simp [encI]) (by simp [encI, Value.oneCell']) (by simp only [List.length_cons, List.length_nil]; omega) (by simp only [List.length_cons, List.length_nil]; omega) fun u21 a w hn21 S H => ?_
              refine t_tail H rfl (rem' := [8, 9]) rfl ?_
              refine t_b [8] (by kernel_rfl) rfl ?_
              intro i hi; simp only [List.mem_cons, List.not_mem_nil, or_false] at hi; subst hi
              · refine ⟨_, rfl, fun w H => ?_⟩
                refine op_store (wn rfl) rfl rfl S H rfl rfl (H.sl1 _) Fsiz40 rfl fun a w S H => ?_
                dsimp only [List.set] at H
                refine t_tail H rfl (rem' := [9]) rfl ?_
                refine t_b [9] (by kernel_rfl) rfl ?_
                intro i hi; simp only [List.mem_cons, List.not_mem_nil, or_false] at hi; subst hi
                · refine ⟨_, rfl, fun w H => ?_⟩
                  refine op_store (wn rfl) rfl rfl S H rfl rfl (H.sl1 _) Fsiz40 rfl fun a w S H => ?_
                  dsimp only [List.set] at H
                  refine t_tail H rfl (rem' := []) rfl ?_
                  refine t_nil (fun w H => ?_)
                  exact ⟨_, _, S.nil.cons S 7 rfl, H.drop 3⟩
        · refine ⟨_, rfl, fun w H => ?_⟩
          refine op_buildSlice (wn rfl) rfl rfl rfl Try.underlying40 Finf3 S H (idx := [0]) rfl rfl rfl (z := [.int .i64 0]) (by kernel_rfl) (cs := [_]) rfl fun b20 a w S H => ?_
          refine t_next H (by repeat (first | exact List.Sublist.refl _ | apply List.Sublist.cons)) (rem' := [3, 7, 8, 9]) rfl ?_
          refine t_b [3] (by kernel_rfl) rfl ?_
          intro i hi; simp only [List.mem_cons, List.not_mem_nil, or_false] at hi; subst hi
          · refine ⟨_, rfl, fun w H => ?_⟩
            refine op_append ([(bnd r).1]) (wn rfl) rfl rfl rfl Try.underlying40 Finf3 rfl rfl S H rfl rfl rfl rfl (by simp) (by simp [encI]) (by simp [encI, Value.oneCell']) (by simp only [List.length_cons, List.length_nil]; omega) (by simp only [List.length_cons, List.length_nil]; omega) fun u17 a w hn17 S H => ?_
            refine t_tail H rfl (rem' := [7, 8, 9]) rfl ?_
            refine t_b [7] (by kernel_rfl) rfl ?_
            intro i hi; simp only [List.mem_cons, List.not_mem_nil, or_false] at hi; subst hi
            · refine ⟨_, rfl, fun w H => ?_⟩
              refine op_append ([(bnd r).2.1]) (wn rfl) rfl rfl rfl Try.underlying40 Finf3 rfl rfl S H rfl rfl rfl rfl (by simp) (by simp [encI]) (by simp [encI, Value.oneCell']) (by simp only [List.length_cons, List.length_nil]; omega) (by simp only [List.length_cons, List.length_nil]; omega) fun u21 a w hn21 S H => ?_
              refine t_tail H rfl (rem' := [8, 9]) rfl ?_
              refine t_b [8] (by kernel_rfl) rfl ?_
              intro i hi; simp only [List.mem_cons, List.not_mem_nil, or_false] at hi; subst hi
              · refine ⟨_, rfl, fun w H => ?_⟩
                refine op_store (wn rfl) rfl rfl S H rfl rfl (H.sl1 _) Fsiz40 rfl fun a w S H => ?_
                dsimp only [List.set] at H
                refine t_tail H rfl (rem' := [9]) rfl ?_
                refine t_b [9] (by kernel_rfl) rfl ?_
                intro i hi; simp only [List.mem_cons, List.not_mem_nil, or_false] at hi; subst hi
                · refine ⟨_, rfl, fun w H => ?_⟩
                  refine op_store (wn rfl) rfl rfl S H rfl rfl (H.sl1 _) Fsiz40 rfl fun a w S H => ?_
                  dsimp only [List.set] at H
                  refine t_tail H rfl (rem' := []) rfl ?_
                  refine t_nil (fun w H => ?_)
                  exact ⟨_, _, S.nil.cons S 7 rfl, H.drop 3⟩
      · refine ⟨_, rfl, fun w H => ?_⟩
        refine op_buildSlice (wn rfl) rfl rfl rfl Try.underlying40 Finf3 S H (idx := [0]) rfl rfl rfl (z := [.int .i64 0]) (by kernel_rfl) (cs := [_]) rfl fun b20 a w S H => ?_
        refine t_next H (by repeat (first | exact List.Sublist.refl _ | apply List.Sublist.cons)) (rem' := [3, 4, 7, 8, 9]) rfl ?_
        refine t_b [3, 4] (by kernel_rfl) rfl ?_
        intro i hi; simp only [List.mem_cons, List.not_mem_nil, or_false] at hi; rcases hi with rfl | rfl
        · refine ⟨_, rfl, fun w H => ?_⟩
          refine op_append ([(bnd r).1]) (wn rfl) rfl rfl rfl Try.underlying40 Finf3 rfl rfl S H rfl rfl rfl rfl (by simp) (by simp [encI]) (by simp [encI, Value.oneCell']) (by simp only [List.length_cons, List.length_nil]; omega) (by simp only [List.length_cons, List.length_nil]; omega) fun u17 a w hn17 S H => ?_
          refine t_tail H rfl (rem' := [4, 7, 8, 9]) rfl ?_
          refine t_q 4 rfl (by kernel_rfl) (rem' := [7, 8, 9]) rfl rfl rfl rfl S (fun w H => y_load rfl Fsca40 S H rfl rfl) fun a S => ?_
          refine t_b [7] (by kernel_rfl) rfl ?_
          intro i hi; simp only [List.mem_cons, List.not_mem_nil, or_false] at hi; subst hi
          · refine ⟨_, rfl, fun w H => ?_⟩
            refine op_append ([(bnd r).2.1]) (wn rfl) rfl rfl rfl Try.underlying40 Finf3 rfl rfl S H rfl rfl rfl rfl (by simp) (by simp [encI]) (by simp [encI, Value.oneCell']) (by simp only [List.length_cons, List.length_nil]; omega) (by simp only [List.length_cons, List.length_nil]; omega) fun u21 a w hn21 S H => ?_
            refine t_tail H rfl (rem' := [8, 9]) rfl ?_
            refine t_b [8] (by kernel_rfl) rfl ?_
            intro i hi; simp only [List.mem_cons, List.not_mem_nil, or_false] at hi; subst hi
            · refine ⟨_, rfl, fun w H => ?_⟩
              refine op_store (wn rfl) rfl rfl S H rfl rfl (H.sl1 _) Fsiz40 rfl fun a w S H => ?_
              dsimp only [List.set] at H
              refine t_tail H rfl (rem' := [9]) rfl ?_
              refine t_b [9] (by kernel_rfl) rfl ?_
              intro i hi; simp only [List.mem_cons, List.not_mem_nil, or_false] at hi; subst hi
              · refine ⟨_, rfl, fun w H => ?_⟩
                refine op_store (wn rfl) rfl rfl S H rfl rfl (H.sl1 _) Fsiz40 rfl fun a w S H => ?_
                dsimp only [List.set] at H
                refine t_tail H rfl (rem' := []) rfl ?_
                refine t_nil (fun w H => ?_)
                exact ⟨_, _, S.nil.cons S 7 rfl, H.drop 3⟩
        · refine ⟨_, rfl, fun w H => ?_⟩
          refine op_y (wn rfl) rfl rfl S (y_load rfl Fsca40 S H rfl rfl) fun a S => ?_
          refine t_next H (by repeat (first | exact List.Sublist.refl _ | apply List.Sublist.cons)) (rem' := [3, 7, 8, 9]) rfl ?_
          refine t_b [3] (by kernel_rfl) rfl ?_
          intro i hi; simp only [List.mem_cons, List.not_mem_nil, or_false] at hi; subst hi
          · refine ⟨_, rfl, fun w H => ?_⟩
            refine op_append ([(bnd r).1]) (wn rfl) rfl rfl rfl Try.underlying40 Finf3 rfl rfl S H rfl rfl rfl rfl (by simp) (by simp [encI]) (by simp [encI, Value.oneCell']) (by simp only [List.length_cons, List.length_nil]; omega) (by simp only [List.length_cons, List.length_nil]; omega) fun u17 a w hn17 S H => ?_
            refine t_tail H rfl (rem' := [7, 8, 9]) rfl ?_
            refine t_b [7] (by kernel_rfl) rfl ?_
            intro i hi; simp only [List.mem_cons, List.not_mem_nil, or_false] at hi; subst hi
            · refine ⟨_, rfl, fun w H => ?_⟩
              refine op_append ([(bnd r).2.1]) (wn rfl) rfl rfl rfl Try.underlying40 Finf3 rfl rfl S H rfl rfl rfl rfl (by simp) (by simp [encI]) (by simp [encI, Value.oneCell']) (by simp only [List.length_cons, List.length_nil]; omega) (by simp only [List.length_cons, List.length_nil]; omega) fun u21 a w hn21 S H => ?_
              refine t_tail H rfl (rem' := [8, 9]) rfl ?_
              refine t_b [8] (by kernel_rfl) rfl ?_
              intro i hi; simp only [List.mem_cons, List.not_mem_nil, or_false] at hi; subst hi
              · refine ⟨_, rfl, fun w H => ?_⟩
                refine op_store (wn rfl) rfl rfl S H rfl rfl (H.sl1 _) Fsiz40 rfl fun a w S H => ?_
                dsimp only [List.set] at H
                refine t_tail H rfl (rem' := [9]) rfl ?_
                refine t_b [9] (by kernel_rfl) rfl ?_
                intro i hi; simp only [List.mem_cons, List.not_mem_nil, or_false] at hi; subst hi
                · refine ⟨_, rfl, fun w H => ?_⟩
                  refine op_store (wn rfl) rfl rfl S H rfl rfl (H.sl1 _) Fsiz40 rfl fun a w S H => ?_
                  dsimp only [List.set] at H
                  refine t_tail H rfl (rem' := []) rfl ?_
                  refine t_nil (fun w H => ?_)
                  exact ⟨_, _, S.nil.cons S 7 rfl, H.drop 3⟩
    · refine ⟨_, rfl, fun w H => ?_⟩
      refine op_y (wn rfl) rfl rfl S (y_load rfl Fsca40 S H rfl rfl) fun a S => ?_
      refine t_next H (by repeat (first | exact List.Sublist.refl _ | apply List.Sublist.cons)) (rem' := [2, 3, 6, 7, 8, 9]) rfl ?_
      refine t_b [2, 6] (by kernel_rfl) rfl ?_
      intro i hi; simp only [List.mem_cons, List.not_mem_nil, or_false] at hi; rcases hi with rfl | rfl
      · refine ⟨_, rfl, fun w H => ?_⟩
        refine op_buildSlice (wn rfl) rfl rfl rfl Try.underlying40 Finf3 S H (idx := [0]) rfl rfl rfl (z := [.int .i64 0]) (by kernel_rfl) (cs := [_]) rfl fun b16 a w S H => ?_
        refine t_next H (by repeat (first | exact List.Sublist.refl _ | apply List.Sublist.cons)) (rem' := [3, 6, 7, 8, 9]) rfl ?_
        refine t_b [3, 6] (by kernel_rfl) rfl ?_
        intro i hi; simp only [List.mem_cons, List.not_mem_nil, or_false] at hi; rcases hi with rfl | rfl
        · refine ⟨_, rfl, fun w H => ?_⟩
          refine op_append ([(bnd r).1]) (wn rfl) rfl rfl rfl Try.underlying40 Finf3 rfl rfl S H rfl rfl rfl rfl (by simp) (by simp [encI]) (by simp [encI, Value.oneCell']) (by simp only [List.length_cons, List.length_nil]; omega) (by simp only [List.length_cons, List.length_nil]; omega) fun u17 a w hn17 S H => ?_
          refine t_tail H rfl (rem' := [6, 7, 8, 9]) rfl ?_
          refine t_b [6] (by kernel_rfl) rfl ?_
          intro i hi; simp only [List.mem_cons, List.not_mem_nil, or_false] at hi; subst hi
          · refine ⟨_, rfl, fun w H => ?_⟩
            refine op_buildSlice (wn rfl) rfl rfl rfl Try.underlying40 Finf3 S H (idx := [0]) rfl rfl rfl (z := [.int .i64 0]) (by kernel_rfl) (cs := [_]) rfl fun b20 a w S H => ?_
            refine t_next H (by repeat (first | exact List.Sublist.refl _ | apply List.Sublist.cons)) (rem' := [7, 8, 9]) rfl ?_
            refine t_b [7] (by kernel_rfl) rfl ?_
            intro i hi; simp only [List.mem_cons, List.not_mem_nil, or_false] at hi; subst hi
            · refine ⟨_, rfl, fun w H => ?_⟩
              refine op_append ([(bnd r).2.1]) (wn rfl) rfl rfl rfl Try.underlying40 Finf3 rfl rfl S H rfl rfl rfl rfl (by simp) (by simp [encI]) (by simp [encI, Value.oneCell']) (by simp only [List.length_cons, List.length_nil]; omega) (by simp only [List.length_cons, List.length_nil]; omega) fun u21 a w hn21 S H => ?_
              refine t_tail H rfl (rem' := [8, 9]) rfl ?_
              refine t_b [8] (by kernel_rfl) rfl ?_
              intro i hi; simp only [List.mem_cons, List.not_mem_nil, or_false] at hi; subst hi
              · refine ⟨_, rfl, fun w H => ?_⟩
                refine op_store (wn rfl) rfl rfl S H rfl rfl (H.sl1 _) Fsiz40 rfl fun a w S H => ?_
                dsimp only [List.set] at H
                refine t_tail H rfl (rem' := [9]) rfl ?_
                refine t_b [9] (by kernel_rfl) rfl ?_
                intro i hi; simp only [List.mem_cons, List.not_mem_nil, or_false] at hi; subst hi
                · refine ⟨_, rfl, fun w H => ?_⟩
                  refine op_store (wn rfl) rfl rfl S H rfl rfl (H.sl1 _) Fsiz40 rfl fun a w S H => ?_
                  dsimp only [List.set] at H
                  refine t_tail H rfl (rem' := []) rfl ?_
                  refine t_nil (fun w H => ?_)
                  exact ⟨_, _, S.nil.cons S 7 rfl, H.drop 3⟩
        · refine ⟨_, rfl, fun w H => ?_⟩
          refine op_buildSlice (wn rfl) rfl rfl rfl Try.underlying40 Finf3 S H (idx := [0]) rfl rfl rfl (z := [.int .i64 0]) (by kernel_rfl) (cs := [_]) rfl fun b20 a w S H => ?_
          refine t_next H (by repeat (first | exact List.Sublist.refl _ | apply List.Sublist.cons)) (rem' := [3, 7, 8, 9]) rfl ?_
          refine t_b [3] (by kernel_rfl) rfl ?_
          intro i hi; simp only [List.mem_cons, List.not_mem_nil, or_false] at hi; subst hi
          · refine ⟨_, rfl, fun w H => ?_⟩
            refine op_append ([(bnd r).1]) (wn rfl) rfl rfl rfl Try.underlying40 Finf3 rfl rfl S H rfl rfl rfl rfl (by simp) (by simp [encI]) (by simp [encI, Value.oneCell']) (by simp only [List.length_cons, List.length_nil]; omega) (by simp only [List.length_cons, List.length_nil]; omega) fun u17 a w hn17 S H => ?_
            refine t_tail H rfl (rem' := [7, 8, 9]) rfl ?_
            refine t_b [7] (by kernel_rfl) rfl ?_
            intro i hi; simp only [List.mem_cons, List.not_mem_nil, or_false] at hi; subst hi
            · refine ⟨_, rfl, fun w H => ?_⟩
              refine op_append ([(bnd r).2.1]) (wn rfl) rfl rfl rfl Try.underlying40 Finf3 rfl rfl S H rfl rfl rfl rfl (by simp) (by simp [encI]) (by simp [encI, Value.oneCell']) (by simp only [List.length_cons, List.length_nil]; omega) (by simp only [List.length_cons, List.length_nil]; omega) fun u21 a w hn21 S H => ?_
              refine t_tail H rfl (rem' := [8, 9]) rfl ?_
              refine t_b [8] (by kernel_rfl) rfl ?_
              intro i hi; simp only [List.mem_cons, List.not_mem_nil, or_false] at hi; subst hi
              · refine ⟨_, rfl, fun w H => ?_⟩
                refine op_store (wn rfl) rfl rfl S H rfl rfl (H.sl1 _) Fsiz40 rfl fun a w S H => ?_
                dsimp only [List.set] at H
                refine t_tail H rfl (rem' := [9]) rfl ?_
                refine t_b [9] (by kernel_rfl) rfl ?_
                intro i hi; simp only [List.mem_cons, List.not_mem_nil, or_false] at hi; subst hi
                · refine ⟨_, rfl, fun w H => ?_⟩
                  refine op_store (wn rfl) rfl rfl S H rfl rfl (H.sl1 _) Fsiz40 rfl fun a w S H => ?_
                  dsimp only [List.set] at H
                  refine t_tail H rfl (rem' := []) rfl ?_
                  refine t_nil (fun w H => ?_)
                  exact ⟨_, _, S.nil.cons S 7 rfl, H.drop 3⟩
      · refine ⟨_, rfl, fun w H => ?_⟩
        refine op_buildSlice (wn rfl) rfl rfl rfl Try.underlying40 Finf3 S H (idx := [0]) rfl rfl rfl (z := [.int .i64 0]) (by kernel_rfl) (cs := [_]) rfl fun b20 a w S H => ?_
        refine t_next H (by repeat (first | exact List.Sublist.refl _ | apply List.Sublist.cons)) (rem' := [2, 3, 7, 8, 9]) rfl ?_
        refine t_b [2] (by kernel_rfl) rfl ?_
        intro i hi; simp only [List.mem_cons, List.not_mem_nil, or_false] at hi; subst hi
        · refine ⟨_, rfl, fun w H => ?_⟩
          refine op_buildSlice (wn rfl) rfl rfl rfl Try.underlying40 Finf3 S H (idx := [0]) rfl rfl rfl (z := [.int .i64 0]) (by kernel_rfl) (cs := [_]) rfl fun b16 a w S H => ?_
          refine t_next H (by repeat (first | exact List.Sublist.refl _ | apply List.Sublist.cons)) (rem' := [3, 7, 8, 9]) rfl ?_
          refine t_b [3] (by kernel_rfl) rfl ?_
          intro i hi; simp only [List.mem_cons, List.not_mem_nil, or_false] at hi; subst hi
          · refine ⟨_, rfl, fun w H => ?_⟩
            refine op_append ([(bnd r).1]) (wn rfl) rfl rfl rfl Try.underlying40 Finf3 rfl rfl S H rfl rfl rfl rfl (by simp) (by simp [encI]) (by simp [encI, Value.oneCell']) (by simp only [List.length_cons, List.length_nil]; omega) (by simp only [List.length_cons, List.length_nil]; omega) fun u17 a w hn17 S H => ?_
            refine t_tail H rfl (rem' := [7, 8, 9]) rfl ?_
            refine t_b [7] (by kernel_rfl) rfl ?_
            intro i hi; simp only [List.mem_cons, List.not_mem_nil, or_false] at hi; subst hi
            · refine ⟨_, rfl, fun w H => ?_⟩
              refine op_append ([(bnd r).2.1]) (wn rfl) rfl rfl rfl Try.underlying40 Finf3 rfl rfl S H rfl rfl rfl rfl (by simp) (by simp [encI]) (by simp [encI, Value.oneCell']) (by simp only [List.length_cons, List.length_nil]; omega) (by simp only [List.length_cons, List.length_nil]; omega) fun u21 a w hn21 S H => ?_
              refine t_tail H rfl (rem' := [8, 9]) rfl ?_
              refine t_b [8] (by kernel_rfl) rfl ?_
              intro i hi; simp only [List.mem_cons, List.not_mem_nil, or_false] at hi; subst hi
              · refine ⟨_, rfl, fun w H => ?_⟩
                refine op_store (wn rfl) rfl rfl S H rfl rfl (H.sl1 _) Fsiz40 rfl fun a w S H => ?_
                dsimp only [List.set] at H
                refine t_tail H rfl (rem' := [9]) rfl ?_
                refine t_b [9] (by kernel_rfl) rfl ?_
                intro i hi; simp only [List.mem_cons, List.not_mem_nil, or_false] at hi; subst hi
                · refine ⟨_, rfl, fun w H => ?_⟩
                  refine op_store (wn rfl) rfl rfl S H rfl rfl (H.sl1 _) Fsiz40 rfl fun a w S H => ?_
                  dsimp only [List.set] at H
                  refine t_tail H rfl (rem' := []) rfl ?_
                  refine t_nil (fun w H => ?_)
                  exact ⟨_, _, S.nil.cons S 7 rfl, H.drop 3⟩
    · refine ⟨_, rfl, fun w H => ?_⟩
      refine op_buildSlice (wn rfl) rfl rfl rfl Try.underlying40 Finf3 S H (idx := [0]) rfl rfl rfl (z := [.int .i64 0]) (by kernel_rfl) (cs := [_]) rfl fun b20 a w S H => ?_
      refine t_next H (by repeat (first | exact List.Sublist.refl _ | apply List.Sublist.cons)) (rem' := [2, 3, 4, 7, 8, 9]) rfl ?_
      refine t_b [2, 4] (by kernel_rfl) rfl ?_
      intro i hi; simp only [List.mem_cons, List.not_mem_nil, or_false] at hi; rcases hi with rfl | rfl
      · refine ⟨_, rfl, fun w H => ?_⟩
        refine op_buildSlice (wn rfl) rfl rfl rfl Try.underlying40 Finf3 S H (idx := [0]) rfl rfl rfl (z := [.int .i64 0]) (by kernel_rfl) (cs := [_]) rfl fun b16 a w S H => ?_
        refine t_next H (by repeat (first | exact List.Sublist.refl _ | apply List.Sublist.cons)) (rem' := [3, 4, 7, 8, 9]) rfl ?_
        refine t_b [3, 4] (by kernel_rfl) rfl ?_
        intro i hi; simp only [List.mem_cons, List.not_mem_nil, or_false] at hi; rcases hi with rfl | rfl
        · refine ⟨_, rfl, fun w H => ?_⟩
          refine op_append ([(bnd r).1]) (wn rfl) rfl rfl rfl Try.underlying40 Finf3 rfl rfl S H rfl rfl rfl rfl (by simp) (by simp [encI]) (by simp [encI, Value.oneCell']) (by simp only [List.length_cons, List.length_nil]; omega) (by simp only [List.length_cons, List.length_nil]; omega) fun u17 a w hn17 S H => ?_
          refine t_tail H rfl (rem' := [4, 7, 8, 9]) rfl ?_
          refine t_q 4 rfl (by kernel_rfl) (rem' := [7, 8, 9]) rfl rfl rfl rfl S (fun w H => y_load rfl Fsca40 S H rfl rfl) fun a S => ?_
          refine t_b [7] (by kernel_rfl) rfl ?_
          intro i hi; simp only [List.mem_cons, List.not_mem_nil, or_false] at hi; subst hi
          · refine ⟨_, rfl, fun w H => ?_⟩
            refine op_append ([(bnd r).2.1]) (wn rfl) rfl rfl rfl Try.underlying40 Finf3 rfl rfl S H rfl rfl rfl rfl (by simp) (by simp [encI]) (by simp [encI, Value.oneCell']) (by simp only [List.length_cons, List.length_nil]; omega) (by simp only [List.length_cons, List.length_nil]; omega) fun u21 a w hn21 S H => ?_
            refine t_tail H rfl (rem' := [8, 9]) rfl ?_
            refine t_b [8] (by kernel_rfl) rfl ?_
            intro i hi; simp only [List.mem_cons, List.not_mem_nil, or_false] at hi; subst hi
            · refine ⟨_, rfl, fun w H => ?_⟩
              refine op_store (wn rfl) rfl rfl S H rfl rfl (H.sl1 _) Fsiz40 rfl fun a w S H => ?_
              dsimp only [List.set] at H
              refine t_tail H rfl (rem' := [9]) rfl ?_
              refine t_b [9] (by kernel_rfl) rfl ?_
              intro i hi; simp only [List.mem_cons, List.not_mem_nil, or_false] at hi; subst hi
              · refine ⟨_, rfl, fun w H => ?_⟩
                refine op_store (wn rfl) rfl rfl S H rfl rfl (H.sl1 _) Fsiz40 rfl fun a w S H => ?_
                dsimp only [List.set] at H
                refine t_tail H rfl (rem' := []) rfl ?_
                refine t_nil (fun w H => ?_)
                exact ⟨_, _, S.nil.cons S 7 rfl, H.drop 3⟩
        · refine ⟨_, rfl, fun w H => ?_⟩
          refine op_y (wn rfl) rfl rfl S (y_load rfl Fsca40 S H rfl rfl) fun a S => ?_
          refine t_next H (by repeat (first | exact List.Sublist.refl _ | apply List.Sublist.cons)) (rem' := [3, 7, 8, 9]) rfl ?_
          refine t_b [3] (by kernel_rfl) rfl ?_
          intro i hi; simp only [List.mem_cons, List.not_mem_nil, or_false] at hi; subst hi
          · refine ⟨_, rfl, fun w H => ?_⟩
            refine op_append ([(bnd r).1]) (wn rfl) rfl rfl rfl Try.underlying40 Finf3 rfl rfl S H rfl rfl rfl rfl (by simp) (by simp [encI]) (by simp [encI, Value.oneCell']) (by simp only [List.length_cons, List.length_nil]; omega) (by simp only [List.length_cons, List.length_nil]; omega) fun u17 a w hn17 S H => ?_
            refine t_tail H rfl (rem' := [7, 8, 9]) rfl ?_
            refine t_b [7] (by kernel_rfl) rfl ?_
            intro i hi; simp only [List.mem_cons, List.not_mem_nil, or_false] at hi; subst hi
            · refine ⟨_, rfl, fun w H => ?_⟩
              refine op_append ([(bnd r).2.1]) (wn rfl) rfl rfl rfl Try.underlying40 Finf3 rfl rfl S H rfl rfl rfl rfl (by simp) (by simp [encI]) (by simp [encI, Value.oneCell']) (by simp only [List.length_cons, List.length_nil]; omega) (by simp only [List.length_cons, List.length_nil]; omega) fun u21 a w hn21 S H => ?_
              refine t_tail H rfl (rem' := [8, 9]) rfl ?_
              refine t_b [8] (by kernel_rfl) rfl ?_
              intro i hi; simp only [List.mem_cons, List.not_mem_nil, or_false] at hi; subst hi
              · refine ⟨_, rfl, fun w H => ?_⟩
                refine op_store (wn rfl) rfl rfl S H rfl rfl (H.sl1 _) Fsiz40 rfl fun a w S H => ?_
                dsimp only [List.set] at H
                refine t_tail H rfl (rem' := [9]) rfl ?_
                refine t_b [9] (by kernel_rfl) rfl ?_
                intro i hi; simp only [List.mem_cons, List.not_mem_nil, or_false] at hi; subst hi
                · refine ⟨_, rfl, fun w H => ?_⟩
                  refine op_store (wn rfl) rfl rfl S H rfl rfl (H.sl1 _) Fsiz40 rfl fun a w S H => ?_
                  dsimp only [List.set] at H
                  refine t_tail H rfl (rem' := []) rfl ?_
                  refine t_nil (fun w H => ?_)
                  exact ⟨_, _, S.nil.cons S 7 rfl, H.drop 3⟩
      · refine ⟨_, rfl, fun w H => ?_⟩
        refine op_y (wn rfl) rfl rfl S (y_load rfl Fsca40 S H rfl rfl) fun a S => ?_
        refine t_next H (by repeat (first | exact List.Sublist.refl _ | apply List.Sublist.cons)) (rem' := [2, 3, 7, 8, 9]) rfl ?_
        refine t_b [2] (by kernel_rfl) rfl ?_
        intro i hi; simp only [List.mem_cons, List.not_mem_nil, or_false] at hi; subst hi
        · refine ⟨_, rfl, fun w H => ?_⟩
          refine op_buildSlice (wn rfl) rfl rfl rfl Try.underlying40 Finf3 S H (idx := [0]) rfl rfl rfl (z := [.int .i64 0]) (by kernel_rfl) (cs := [_]) rfl fun b16 a w S H => ?_
          refine t_next H (by repeat (first | exact List.Sublist.refl _ | apply List.Sublist.cons)) (rem' := [3, 7, 8, 9]) rfl ?_
          refine t_b [3] (by kernel_rfl) rfl ?_
          intro i hi; simp only [List.mem_cons, List.not_mem_nil, or_false] at hi; subst hi
          · refine ⟨_, rfl, fun w H => ?_⟩
            refine op_append ([(bnd r).1]) (wn rfl) rfl rfl rfl Try.underlying40 Finf3 rfl rfl S H rfl rfl rfl rfl (by simp) (by simp [encI]) (by simp [encI, Value.oneCell']) (by simp only [List.length_cons, List.length_nil]; omega) (by simp only [List.length_cons, List.length_nil]; omega) fun u17 a w hn17 S H => ?_
            refine t_tail H rfl (rem' := [7, 8, 9]) rfl ?_
            refine t_b [7] (by kernel_rfl) rfl ?_
            intro i hi; simp only [List.mem_cons, List.not_mem_nil, or_false] at hi; subst hi
            · refine ⟨_, rfl, fun w H => ?_⟩
              refine op_append ([(bnd r).2.1]) (wn rfl) rfl rfl rfl Try.underlying40 Finf3 rfl rfl S H rfl rfl rfl rfl (by simp) (by simp [encI]) (by simp [encI, Value.oneCell']) (by simp only [List.length_cons, List.length_nil]; omega) (by simp only [List.length_cons, List.length_nil]; omega) fun u21 a w hn21 S H => ?_
              refine t_tail H rfl (rem' := [8, 9]) rfl ?_
              refine t_b [8] (by kernel_rfl) rfl ?_
              intro i hi; simp only [List.mem_cons, List.not_mem_nil, or_false] at hi; subst hi
              · refine ⟨_, rfl, fun w H => ?_⟩
                refine op_store (wn rfl) rfl rfl S H rfl rfl (H.sl1 _) Fsiz40 rfl fun a w S H => ?_
                dsimp only [List.set] at H
                refine t_tail H rfl (rem' := [9]) rfl ?_
                refine t_b [9] (by kernel_rfl) rfl ?_
                intro i hi; simp only [List.mem_cons, List.not_mem_nil, or_false] at hi; subst hi
                · refine ⟨_, rfl, fun w H => ?_⟩
                  refine op_store (wn rfl) rfl rfl S H rfl rfl (H.sl1 _) Fsiz40 rfl fun a w S H => ?_
                  dsimp only [List.set] at H
                  refine t_tail H rfl (rem' := []) rfl ?_
                  refine t_nil (fun w H => ?_)
                  exact ⟨_, _, S.nil.cons S 7 rfl, H.drop 3⟩
  rintro a w ⟨u17, u21, S, H⟩
  refine wp_seq ?_
  -- region 3 clock.go:38
  refine wp_region_lit ?_
  refine wl_of (op_y (wn rfl) rfl rfl S (y_move rfl S rfl) fun a S => ?_)
  refine wl_of (op_y (wn rfl) rfl rfl S (y_bin rfl S rfl rfl rfl) fun a S => ?_)
  refine wl_of (op_y (wn rfl) rfl rfl S (y_assign rfl S rfl) fun a S => ?_)
  refine wpList_nil ?_
  refine n_then ?_
  refine wp_ret ?_
  refine ret1 rfl S rfl ?_
  exact ⟨rfl, _, _, H⟩

theorem badStep (v : Value) (l : List Rd) (b5 b6 : Nat) (hlen : l.length ≤ 1000000) {w0 : World} (j : Nat) (hj : j < l.length) (w : World) (hJ : ∃ va vb, HSat No w0 (Cel b5 40 [va] :: Cel b6 40 [vb] :: OSl 3 va 1 encI ((l.map fun r => (bnd r).1).take j) :: OSl 3 vb 1 encI ((l.map fun r => (bnd r).2.1).take j) :: [Sl v 3 Rd.enc l]) w) : Ret Try.prog 18 ([Value.agg (Rd.enc l[j]).toArray] ++ [Value.pointer (some ⟨b5, 0, none⟩), .pointer (some ⟨b6, 0, none⟩)]).toArray w
    (fun u w => u = .bool ((bnd l[j]).2.2 != 0) ∧ ∃ va vb, HSat No w0 (Cel b5 40 [va] :: Cel b6 40 [vb] :: OSl 3 va 1 encI ((l.map fun r => (bnd r).1).take (j + 1)) :: OSl 3 vb 1 encI ((l.map fun r => (bnd r).2.1).take (j + 1)) :: [Sl v 3 Rd.enc l]) w) := by
  obtain ⟨va, vb, H⟩ := hJ
  refine Ret.mono (bad_spec l[j] b5 b6 va vb _ _ w H (by simp; omega) (by simp; omega)) ?_
  rintro u w' ⟨rfl, a, b, H⟩
  refine ⟨rfl, a, b, ?_⟩
  rw [takeStep l (fun r => (bnd r).1) j hj, takeStep l (fun r => (bnd r).2.1) j hj] at H
  exact H
theorem agree_perm {x y z u : Atom} {l : List Atom} : (x :: y :: z :: u :: l).Perm (u :: z :: y :: x :: l) :=
  List.Perm.append_right l (by simpa using (List.reverse_perm [u, z, y, x]))
/-- foyer/clock.Agree -/
theorem agree_spec (v : Value) (l : List Rd) (w0 : World) (hv : IsSl w0 v 3 Rd.enc l) (hlen : l.length ≤ 1000000) :
    Ret Try.prog 14 #[v] w0 (fun u w => u = trip (agree l) ∧ Ext w0 w) := by
  refine ret_of_wp (n := 28) Try.func14 rfl rfl rfl (fl := [(0, v)]) rfl (fun a S => ?_)
  have H := HSat.start w0
  have H := H.ro0 (Sl v 3 Rd.enc l) rfl (hv)
  refine wp_seq ?_
  -- region 0 clock.go:33
  refine wp_region_lit ?_
  refine wl_of (op_y (wn rfl) rfl rfl S (y_assign rfl S rfl) fun a S => ?_)
  refine wl_of (op_y (wn rfl) rfl rfl S (y_assign rfl S rfl) fun a S => ?_)
  refine wl_of (op_y (wn rfl) rfl rfl S (y_assign rfl S rfl) fun a S => ?_)
  refine wpList_nil ?_
  refine n_then ?_
  refine wp_seq ?_
  -- region 1 clock.go:34
  refine wp_region_lit ?_
  refine wl_of (op_alloc (wn rfl) rfl rfl rfl S H Fzer40 fun b5 a w S H => ?_)
  refine wl_of (op_alloc (wn rfl) rfl rfl rfl S H Fzer40 fun b6 a w S H => ?_)
  refine wpList_nil ?_
  refine n_then ?_
  refine wp_seq ?_
  -- region 2 clock.go:35
  refine wp_region_lit ?_
  refine wl_of (op_y (wn rfl) rfl rfl S (y_makeFunc rfl S rfl rfl) fun a S => ?_)
  refine wl_of (op_y (wn rfl) rfl rfl S (y_assign rfl S rfl) fun a S => ?_)
  refine wpList_nil ?_
  refine n_then ?_
  refine wp_seq ?_
  refine wp_seq ?_
  -- region 3 clock.go:40
  refine wp_region_lit ?_
  refine wl_of (op_y (wn rfl) rfl rfl S (y_move rfl S rfl) fun a S => ?_)
  refine wl_of (op_y (wn rfl) rfl rfl S (y_lens rfl Try.underlying24 S H rfl) fun a S => ?_)
  refine wl_of (op_y (wn rfl) rfl rfl S (y_bin rfl S rfl rfl rfl) fun a S => ?_)
  refine wl_of (op_y (wn rfl) rfl rfl S (y_move rfl S rfl) fun a S => ?_)
  refine' wl_orW (W := fun w => ∃ j va vb, HSat No w0 (Cel b5 40 [va] :: Cel b6 40 [vb] :: OSl 3 va 1 encI ((l.map fun r => (bnd r).1).take j) :: OSl 3 vb 1 encI ((l.map fun r => (bnd r).2.1).take j) :: [Sl v 3 Rd.enc l]) w ∧ (l.any (fun r => (bnd r).2.2 != 0) = false → j = l.length)) 3 14 rfl S (fun h1 => ⟨0, _, _, ((H.nilO 3 1 encI).nilO 3 1 encI).perm agree_perm, fun _ => by obtain rfl : l = [] := (by simpa using h1); rfl⟩) rfl rfl rfl rfl rfl rfl rfl (fun _ S => (wn rfl)) (fun h1 kk => ?yh1) (fun a w S hW => ?_)
  case yh1 =>
    have h1p := h1; try simp only [decide_eq_true_eq, decide_eq_false_iff_not, Bool.or_eq_true, Bool.and_eq_true, Bool.or_eq_false_iff, Bool.and_eq_false_iff, Bool.not_eq_true', Bool.not_eq_false', bne_iff_ne, beq_iff_eq, beq_eq_false_iff_ne, bne_eq_false_iff_eq, ne_eq, Decidable.not_not, Int.not_lt, Int.not_le, gt_iff_lt, ge_iff_le, Bool.true_eq_false, Bool.false_eq_true, not_true_eq_false, not_false_eq_true] at h1p
    refine wl_of (op_y (wg' 14 rfl rfl S rfl h1 rfl) rfl rfl S (y_move rfl S rfl) fun a S => ?_)
    refine wl_of (op_y (wg' 14 rfl rfl S rfl h1 rfl) rfl rfl S (y_move rfl S rfl) fun a S => ?_)
    refine wl_of (op_call (wg' 14 rfl rfl S rfl h1 rfl) rfl rfl S (co_func rfl Try.call19 S rfl) (containsFunc_spec v Rd.enc l 18 [.pointer (some ⟨b5, 0, none⟩), .pointer (some ⟨b6, 0, none⟩)] Try.call18 (fun r => (bnd r).2.2 != 0) (fun j w => ∃ va vb, HSat No w0 (Cel b5 40 [va] :: Cel b6 40 [vb] :: OSl 3 va 1 encI ((l.map fun r => (bnd r).1).take j) :: OSl 3 vb 1 encI ((l.map fun r => (bnd r).2.1).take j) :: [Sl v 3 Rd.enc l]) w) w (fun j w w1 ⟨va, vb, h⟩ e => ⟨va, vb, h.ext e⟩) (fun j w ⟨va, vb, h⟩ => h.sl v) (fun j hj w hJ => badStep v l b5 b6 hlen j hj w hJ) ⟨_, _, ((H.nilO 3 1 encI).nilO 3 1 encI).perm agree_perm⟩) fun v w hc a S => ?_)
    obtain ⟨rfl, j, ⟨va, vb, H⟩, hj⟩ := hc
    
    refine wl_of (op_y (wn rfl) rfl rfl S (y_or' rfl h1 S rfl rfl) fun a S => ?_)
    exact kk _ _ (S.join 4 18 rfl rfl) (⟨j, va, vb, H, hj⟩)
  obtain ⟨j, va, vb, H, hj⟩ := hW
  refine wpList_nil ?_
  refine n_then ?_
  have S := (((((S.nil.cons S 2 rfl).cons S 3 rfl).cons S 4 rfl).cons S 5 rfl).cons S 6 rfl).cons S 18 rfl
  -- cond 1
  refine c_if S rfl (fun h2 => ?_) (fun h2 => ?_)
  · have h2p := h2; try simp only [decide_eq_true_eq, decide_eq_false_iff_not, Bool.or_eq_true, Bool.and_eq_true, Bool.or_eq_false_iff, Bool.and_eq_false_iff, Bool.not_eq_true', Bool.not_eq_false', bne_iff_ne, beq_iff_eq, beq_eq_false_iff_ne, bne_eq_false_iff_eq, ne_eq, Decidable.not_not, Int.not_lt, Int.not_le, gt_iff_lt, ge_iff_le, Bool.true_eq_false, Bool.false_eq_true, not_true_eq_false, not_false_eq_true] at h2p
    refine wp_seq ?_
    -- region 4 clock.go:41
    refine wp_region_lit ?_
    refine wl_of (op_y (wn rfl) rfl rfl S (y_assign rfl S rfl) fun a S => ?_)
    refine wl_of (op_y (wn rfl) rfl rfl S (y_assign rfl S rfl) fun a S => ?_)
    refine wl_of (op_y (wn rfl) rfl rfl S (y_assign rfl S rfl) fun a S => ?_)
    refine wpList_nil ?_
    refine n_then ?_
    have S := ((((S.nil.cons S 5 rfl).cons S 6 rfl).cons S 2 rfl).cons S 3 rfl).cons S 4 rfl
    refine wp_ret ?_
    refine r_then (ret3 rfl S rfl rfl rfl ?_)
    exact ⟨congrArg trip (agree_bad l h2).symm, H.toExt⟩
  · have h2p := h2; try simp only [decide_eq_true_eq, decide_eq_false_iff_not, Bool.or_eq_true, Bool.and_eq_true, Bool.or_eq_false_iff, Bool.and_eq_false_iff, Bool.not_eq_true', Bool.not_eq_false', bne_iff_ne, beq_iff_eq, beq_eq_false_iff_ne, bne_eq_false_iff_eq, ne_eq, Decidable.not_not, Int.not_lt, Int.not_le, gt_iff_lt, ge_iff_le, Bool.true_eq_false, Bool.false_eq_true, not_true_eq_false, not_false_eq_true] at h2p
    obtain ⟨hl0, hany⟩ := h2p
    obtain rfl := hj hany
    simp only [takeMap] at H
    refine wp_skip ?_
    refine n_then ?_
    refine wp_seq ?_
    -- region 5 DRAWS clock.go:43
    refine region_st (loud := []) (tails := []) [0, 1, 2, 3, 4, 5] Fmo (by kernel_rfl) (by kernel_rfl) rfl H ?_
    refine m_w rfl rfl (wn rfl) rfl rfl S (fun w H => y_load rfl Fsca40 S H rfl rfl) fun a S => ?_
    refine m_c rfl rfl (wn rfl) rfl rfl S (fun w => co_func rfl Try.call20 S rfl) (fun w H => max_spec _ _ _ (H.sl _) (by simp; omega)) fun a S => ?_
    refine m_w rfl rfl (wn rfl) rfl rfl S (fun w H => y_load rfl Fsca40 S H rfl rfl) fun a S => ?_
    refine m_c rfl rfl (wn rfl) rfl rfl S (fun w => co_func rfl Try.call21 S rfl) (fun w H => min_spec _ _ _ (H.sl _) (by simp; omega)) fun a S => ?_
    refine m_w rfl rfl (wn rfl) rfl rfl S (fun w H => y_assign rfl S rfl) fun a S => ?_
    refine m_w rfl rfl (wn rfl) rfl rfl S (fun w H => y_assign rfl S rfl) fun a S => ?_
    refine m_nil (fun w H => ?_)
    refine n_then ?_
    have S := ((((S.nil.cons S 2 rfl).cons S 3 rfl).cons S 4 rfl).cons S 8 rfl).cons S 9 rfl
    refine wp_seq ?_
    refine wp_seq ?_
    -- region 6 clock.go:44
    refine wp_region_lit ?_
    refine wl_of (op_y (wn rfl) rfl rfl S (y_move rfl S rfl) fun a S => ?_)
    refine wl_of (op_y (wn rfl) rfl rfl S (y_move rfl S rfl) fun a S => ?_)
    refine wl_of (op_y (wn rfl) rfl rfl S (y_bin rfl S rfl rfl rfl) fun a S => ?_)
    refine wpList_nil ?_
    refine n_then ?_
    -- cond 2
    refine c_if S rfl (fun h3 => ?_) (fun h3 => ?_)
    · have h3p := h3; try simp only [decide_eq_true_eq, decide_eq_false_iff_not, Bool.or_eq_true, Bool.and_eq_true, Bool.or_eq_false_iff, Bool.and_eq_false_iff, Bool.not_eq_true', Bool.not_eq_false', bne_iff_ne, beq_iff_eq, beq_eq_false_iff_ne, bne_eq_false_iff_eq, ne_eq, Decidable.not_not, Int.not_lt, Int.not_le, gt_iff_lt, ge_iff_le, Bool.true_eq_false, Bool.false_eq_true, not_true_eq_false, not_false_eq_true] at h3p
      refine wp_seq ?_
      -- region 7 clock.go:45
      refine wp_region_lit ?_
      refine wl_of (op_y (wn rfl) rfl rfl S (y_assign rfl S rfl) fun a S => ?_)
      refine wl_of (op_y (wn rfl) rfl rfl S (y_assign rfl S rfl) fun a S => ?_)
      refine wl_of (op_y (wn rfl) rfl rfl S (y_assign rfl S rfl) fun a S => ?_)
      refine wpList_nil ?_
      refine n_then ?_
      have S := ((((S.nil.cons S 8 rfl).cons S 9 rfl).cons S 2 rfl).cons S 3 rfl).cons S 4 rfl
      refine wp_ret ?_
      refine r_then (ret3 rfl S rfl rfl rfl ?_)
      exact ⟨congrArg trip ((agree_ok l h2).trans (if_pos h3p)).symm, H.toExt⟩
    · have h3p := h3; try simp only [decide_eq_true_eq, decide_eq_false_iff_not, Bool.or_eq_true, Bool.and_eq_true, Bool.or_eq_false_iff, Bool.and_eq_false_iff, Bool.not_eq_true', Bool.not_eq_false', bne_iff_ne, beq_iff_eq, beq_eq_false_iff_ne, bne_eq_false_iff_eq, ne_eq, Decidable.not_not, Int.not_lt, Int.not_le, gt_iff_lt, ge_iff_le, Bool.true_eq_false, Bool.false_eq_true, not_true_eq_false, not_false_eq_true] at h3p
      refine wp_skip ?_
      refine n_then ?_
      refine wp_seq ?_
      -- region 8 clock.go:47
      refine wp_region_lit ?_
      refine wl_of (op_y (wn rfl) rfl rfl S (y_move rfl S rfl) fun a S => ?_)
      refine wl_of (op_y (wn rfl) rfl rfl S (y_move rfl S rfl) fun a S => ?_)
      refine wl_of (op_y (wn rfl) rfl rfl S (y_assign rfl S rfl) fun a S => ?_)
      refine wl_of (op_y (wn rfl) rfl rfl S (y_assign rfl S rfl) fun a S => ?_)
      refine wl_of (op_y (wn rfl) rfl rfl S (y_assign rfl S rfl) fun a S => ?_)
      refine wpList_nil ?_
      refine n_then ?_
      have S := ((S.nil.cons S 2 rfl).cons S 3 rfl).cons S 4 rfl
      refine wp_ret ?_
      refine ret3 rfl S rfl rfl rfl ?_
      exact ⟨congrArg trip ((agree_ok l h2).trans (if_neg (by omega))).symm, H.toExt⟩
/-- foyer/foyerref25.Agree -/
theorem refAgree_spec (v : Value) (l : List Rd) (w0 : World) (hv : IsSl w0 v 3 Rd.enc l) (hlen : l.length ≤ 1000000) :
    Ret Try.prog 15 #[v] w0 (fun u w => u = trip (agree l) ∧ Ext w0 w) := by
  refine ret_of_wp (n := 52) Try.func15 rfl rfl rfl (fl := [(0, v)]) rfl (fun a S => ?_)
  have H := HSat.start w0
  have H := H.ro0 (Sl v 3 Rd.enc l) rfl (hv)
  refine wp_seq ?_
  -- region 0 ref.go:31
  refine wp_region_lit ?_
  refine wl_of (op_y (wn rfl) rfl rfl S (y_assign rfl S rfl) fun a S => ?_)
  refine wl_of (op_y (wn rfl) rfl rfl S (y_assign rfl S rfl) fun a S => ?_)
  refine wl_of (op_y (wn rfl) rfl rfl S (y_assign rfl S rfl) fun a S => ?_)
  refine wpList_nil ?_
  refine n_then ?_
  refine wp_seq ?_
  refine wp_seq ?_
  -- region 1 ref.go:32
  refine wp_region_lit ?_
  refine wl_of (op_y (wn rfl) rfl rfl S (y_move rfl S rfl) fun a S => ?_)
  refine wl_of (op_y (wn rfl) rfl rfl S (y_lens rfl Try.underlying24 S H rfl) fun a S => ?_)
  refine wl_of (op_y (wn rfl) rfl rfl S (y_bin rfl S rfl rfl rfl) fun a S => ?_)
  refine wpList_nil ?_
  refine n_then ?_
  -- cond 1
  refine c_if S rfl (fun h1 => ?_) (fun h1 => ?_)
  · have h1p := h1; try simp only [decide_eq_true_eq, decide_eq_false_iff_not, Bool.or_eq_true, Bool.and_eq_true, Bool.or_eq_false_iff, Bool.and_eq_false_iff, Bool.not_eq_true', Bool.not_eq_false', bne_iff_ne, beq_iff_eq, beq_eq_false_iff_ne, bne_eq_false_iff_eq, ne_eq, Decidable.not_not, Int.not_lt, Int.not_le, gt_iff_lt, ge_iff_le, Bool.true_eq_false, Bool.false_eq_true, not_true_eq_false, not_false_eq_true] at h1p
    refine wp_seq ?_
    -- region 2 ref.go:33
    refine wp_region_lit ?_
    refine wl_of (op_y (wn rfl) rfl rfl S (y_assign rfl S rfl) fun a S => ?_)
    refine wl_of (op_y (wn rfl) rfl rfl S (y_assign rfl S rfl) fun a S => ?_)
    refine wl_of (op_y (wn rfl) rfl rfl S (y_assign rfl S rfl) fun a S => ?_)
    refine wpList_nil ?_
    refine n_then ?_
    have S := (((S.nil.cons S 0 rfl).cons S 2 rfl).cons S 3 rfl).cons S 4 rfl
    refine wp_ret ?_
    refine r_then (ret3 rfl S rfl rfl rfl ?_)
    exact ⟨congrArg trip (agree_bad l (by rw [h1]; rfl)).symm, H.toExt⟩
  · have h1p := h1; try simp only [decide_eq_true_eq, decide_eq_false_iff_not, Bool.or_eq_true, Bool.and_eq_true, Bool.or_eq_false_iff, Bool.and_eq_false_iff, Bool.not_eq_true', Bool.not_eq_false', bne_iff_ne, beq_iff_eq, beq_eq_false_iff_ne, bne_eq_false_iff_eq, ne_eq, Decidable.not_not, Int.not_lt, Int.not_le, gt_iff_lt, ge_iff_le, Bool.true_eq_false, Bool.false_eq_true, not_true_eq_false, not_false_eq_true] at h1p
    refine wp_skip ?_
    refine n_then ?_
    refine wp_seq ?_
    -- region 3 ref.go:35
    refine wp_region_lit ?_
    refine wl_of (op_y (wn rfl) rfl rfl S (y_assign rfl S rfl) fun a S => ?_)
    refine wpList_nil ?_
    refine n_then ?_
    refine wp_seq ?_
    -- region 4 ref.go:36
    refine wp_region_lit ?_
    refine wl_of (op_y (wn rfl) rfl rfl S (y_assign rfl S rfl) fun a S => ?_)
    refine wpList_nil ?_
    refine n_then ?_
    refine wp_seq ?_
    refine wp_seq ?_
    -- region 5 ref.go:37
    refine wp_region_lit ?_
    refine wl_of (op_y (wn rfl) rfl rfl S (y_assign rfl S rfl) fun a S => ?_)
    refine wpList_nil ?_
    refine n_then ?_
    refine wp_block ?_
    -- slots written in the loop and forgotten at its head: [2, 3, 4]
    have SU := S.nil.cons S 0 rfl
    refine loop_k (X := Nat) SU (fun k => [(5, .int .i64 (maxL ((l.map fun r => (bnd r).1).take k))), (6, .int .i64 (minL ((l.map fun r => (bnd r).2.1).take k))), (7, .int .i64 (k : Int))]) (fun k => k ≤ l.length ∧ ∀ j (h : j < l.length), j < k → (bnd l[j]).2.2 = 0) (fun k => l.length - k) 0 (((S.nil.cons S 7 rfl).cons S 6 rfl).cons S 5 rfl) H (⟨by omega, fun j h hj => by omega⟩) (fun k a w S H hi => ?_)
    simp only [List.cons_append, List.nil_append] at S hi
    obtain ⟨hk, hgood⟩ := hi
    refine wp_seq ?_
    refine wp_seq ?_
    -- region 6 ref.go:37
    refine wp_region_lit ?_
    refine wl_of (op_y (wn rfl) rfl rfl S (y_move rfl S rfl) fun a S => ?_)
    refine wl_of (op_y (wn rfl) rfl rfl S (y_move rfl S rfl) fun a S => ?_)
    refine wl_of (op_y (wn rfl) rfl rfl S (y_lens rfl Try.underlying24 S H rfl) fun a S => ?_)
    refine wl_of (op_y (wn rfl) rfl rfl S (y_bin rfl S rfl rfl rfl) fun a S => ?_)
    refine wpList_nil ?_
    refine n_then ?_
    -- cond 2
    refine c_if S rfl (fun h2 => ?_) (fun h2 => ?_)
    · have h2p := h2; try simp only [decide_eq_true_eq, decide_eq_false_iff_not, Bool.or_eq_true, Bool.and_eq_true, Bool.or_eq_false_iff, Bool.and_eq_false_iff, Bool.not_eq_true', Bool.not_eq_false', bne_iff_ne, beq_iff_eq, beq_eq_false_iff_ne, bne_eq_false_iff_eq, ne_eq, Decidable.not_not, Int.not_lt, Int.not_le, gt_iff_lt, ge_iff_le, Bool.true_eq_false, Bool.false_eq_true, not_true_eq_false, not_false_eq_true] at h2p
      refine wp_skip ?_
      refine n_then ?_
      refine wp_seq ?_
      refine wp_block ?_
      refine wp_seq ?_
      -- region 8 ref.go:38
      refine wp_region_lit ?_
      refine wl_of (op_y (wn rfl) rfl rfl S (y_move rfl S rfl) fun a S => ?_)
      refine wl_of (op_y (wn rfl) rfl rfl S (y_move rfl S rfl) fun a S => ?_)
      refine wl_of (op_y (wn rfl) rfl rfl S (y_iaddrn rfl Try.underlying24 Fsiz23 S H rfl rfl (by omega)) fun a S => ?_)
      refine wl_of (op_y (wn rfl) rfl rfl S (y_loadsa _ rfl S H rfl (by exact Fagg23) (by omega)) fun a S => ?_)
      refine wl_of (op_call (wn rfl) rfl rfl S (co_func rfl Try.call11 S rfl) (refBounds_spec _ _) fun v w hc a S => ?_)
      obtain ⟨rfl, he⟩ := hc
      have H := H.ext he
      refine wl_of (op_y (wn rfl) rfl rfl S (y_move rfl S rfl) fun a S => ?_)
      refine wl_of (op_y (wn rfl) rfl rfl S (y_extract rfl S rfl rfl) fun a S => ?_)
      refine wl_of (op_y (wn rfl) rfl rfl S (y_extract rfl S rfl rfl) fun a S => ?_)
      refine wl_of (op_y (wn rfl) rfl rfl S (y_extract rfl S rfl rfl) fun a S => ?_)
      refine wl_of (op_y (wn rfl) rfl rfl S (y_assign rfl S rfl) fun a S => ?_)
      refine wl_of (op_y (wn rfl) rfl rfl S (y_assign rfl S rfl) fun a S => ?_)
      refine wl_of (op_y (wn rfl) rfl rfl S (y_assign rfl S rfl) fun a S => ?_)
      refine wpList_nil ?_
      refine n_then ?_
      refine wp_seq ?_
      refine wp_seq ?_
      -- region 9 ref.go:39
      refine wp_region_lit ?_
      refine wl_of (op_y (wn rfl) rfl rfl S (y_move rfl S rfl) fun a S => ?_)
      refine wl_of (op_y (wn rfl) rfl rfl S (y_bin rfl S rfl rfl rfl) fun a S => ?_)
      refine wpList_nil ?_
      refine n_then ?_
      -- cond 3
      refine c_if S rfl (fun h3 => ?_) (fun h3 => ?_)
      · have h3p := h3; try simp only [decide_eq_true_eq, decide_eq_false_iff_not, Bool.or_eq_true, Bool.and_eq_true, Bool.or_eq_false_iff, Bool.and_eq_false_iff, Bool.not_eq_true', Bool.not_eq_false', bne_iff_ne, beq_iff_eq, beq_eq_false_iff_ne, bne_eq_false_iff_eq, ne_eq, Decidable.not_not, Int.not_lt, Int.not_le, gt_iff_lt, ge_iff_le, Bool.true_eq_false, Bool.false_eq_true, not_true_eq_false, not_false_eq_true] at h3p
        refine wp_seq ?_
        -- region 10 ref.go:40
        refine wp_region_lit ?_
        refine wl_of (op_y (wn rfl) rfl rfl S (y_assign rfl S rfl) fun a S => ?_)
        refine wl_of (op_y (wn rfl) rfl rfl S (y_assign rfl S rfl) fun a S => ?_)
        refine wl_of (op_y (wn rfl) rfl rfl S (y_assign rfl S rfl) fun a S => ?_)
        refine wpList_nil ?_
        refine n_then ?_
        refine wp_ret ?_
        refine r_then (r_block (r_then (r_then (r_block (r_then (ret3 rfl S rfl rfl rfl ?_))))))
        exact ⟨congrArg trip (agree_bad l (by rw [Bool.or_eq_true]; exact .inr (List.any_eq_true.2 ⟨_, List.getElem_mem (by omega), h3⟩))).symm, H.toExt⟩
      · have h3p := h3; try simp only [decide_eq_true_eq, decide_eq_false_iff_not, Bool.or_eq_true, Bool.and_eq_true, Bool.or_eq_false_iff, Bool.and_eq_false_iff, Bool.not_eq_true', Bool.not_eq_false', bne_iff_ne, beq_iff_eq, beq_eq_false_iff_ne, bne_eq_false_iff_eq, ne_eq, Decidable.not_not, Int.not_lt, Int.not_le, gt_iff_lt, ge_iff_le, Bool.true_eq_false, Bool.false_eq_true, not_true_eq_false, not_false_eq_true] at h3p
        refine wp_skip ?_
        refine n_then ?_
        refine wp_seq ?_
        refine wp_seq ?_
        -- region 11 ref.go:42
        refine wp_region_lit ?_
        refine wl_of (op_y (wn rfl) rfl rfl S (y_move rfl S rfl) fun a S => ?_)
        refine wl_of (op_y (wn rfl) rfl rfl S (y_bin rfl S rfl rfl rfl) fun a S => ?_)
        refine wl_of (op_y (wn rfl) rfl rfl S (y_move rfl S rfl) fun a S => ?_)
        refine' wl_or 3 33 rfl S H rfl rfl rfl rfl rfl rfl rfl (fun _ S => (wn rfl)) (fun h4 kk => ?yh4) (fun a w S H => ?_)
        case yh4 =>
          have h4p := h4; try simp only [decide_eq_true_eq, decide_eq_false_iff_not, Bool.or_eq_true, Bool.and_eq_true, Bool.or_eq_false_iff, Bool.and_eq_false_iff, Bool.not_eq_true', Bool.not_eq_false', bne_iff_ne, beq_iff_eq, beq_eq_false_iff_ne, bne_eq_false_iff_eq, ne_eq, Decidable.not_not, Int.not_lt, Int.not_le, gt_iff_lt, ge_iff_le, Bool.true_eq_false, Bool.false_eq_true, not_true_eq_false, not_false_eq_true] at h4p
          refine wl_of (op_y (wg' 33 rfl rfl S rfl h4 rfl) rfl rfl S (y_move rfl S rfl) fun a S => ?_)
          refine wl_of (op_y (wg' 33 rfl rfl S rfl h4 rfl) rfl rfl S (y_move rfl S rfl) fun a S => ?_)
          refine wl_of (op_y (wg' 33 rfl rfl S rfl h4 rfl) rfl rfl S (y_bin rfl S rfl rfl rfl) fun a S => ?_)
          refine wl_of (op_y (wn rfl) rfl rfl S (y_or' rfl h4 S rfl rfl) fun a S => ?_)
          exact kk _ _ (S.join 4 37 rfl rfl) H
        refine wpList_nil ?_
        refine n_then ?_
        -- cond 4, joined
        refine' c_ji (s := 5) S rfl (fun h5 => ?th5) (fun h5 => ?fh5) (fun a w S H => ?_)
        case th5 =>
          have h5p := h5; try simp only [decide_eq_true_eq, decide_eq_false_iff_not, Bool.or_eq_true, Bool.and_eq_true, Bool.or_eq_false_iff, Bool.and_eq_false_iff, Bool.not_eq_true', Bool.not_eq_false', bne_iff_ne, beq_iff_eq, beq_eq_false_iff_ne, bne_eq_false_iff_eq, ne_eq, Decidable.not_not, Int.not_lt, Int.not_le, gt_iff_lt, ge_iff_le, Bool.true_eq_false, Bool.false_eq_true, not_true_eq_false, not_false_eq_true] at h5p
          -- region 12 ref.go:43
          refine wp_region_lit ?_
          refine wl_of (op_y (wn rfl) rfl rfl S (y_move rfl S rfl) fun a S => ?_)
          refine wl_of (op_y (wn rfl) rfl rfl S (y_assign rfl S rfl) fun a S => ?_)
          refine wpList_nil ?_
          refine n_then ?_
          exact ⟨S.nil.cons S 5 rfl, ((((((((((((((((((((((((S.nil.cons S 0 rfl).cons S 7 rfl).cons S 6 rfl).cons S 14 rfl).cons S 15 rfl).cons S 16 rfl).cons S 17 rfl).cons S 21 rfl).cons S 22 rfl).cons S 23 rfl).cons S 24 rfl).cons S 25 rfl).cons S 20 rfl).cons S 26 rfl).cons S 27 rfl).cons S 28 rfl).cons S 8 rfl).cons S 9 rfl).cons S 10 rfl).cons S 29 rfl).cons S 30 rfl).cons S 31 rfl).cons S 32 rfl).cons S 33 rfl).cons S 37 rfl, H⟩
        case fh5 =>
          have h5p := h5; try simp only [decide_eq_true_eq, decide_eq_false_iff_not, Bool.or_eq_true, Bool.and_eq_true, Bool.or_eq_false_iff, Bool.and_eq_false_iff, Bool.not_eq_true', Bool.not_eq_false', bne_iff_ne, beq_iff_eq, beq_eq_false_iff_ne, bne_eq_false_iff_eq, ne_eq, Decidable.not_not, Int.not_lt, Int.not_le, gt_iff_lt, ge_iff_le, Bool.true_eq_false, Bool.false_eq_true, not_true_eq_false, not_false_eq_true] at h5p
          refine wp_skip ?_
          refine n_then ?_
          exact ⟨S.nil.cons S 5 rfl, ((((((((((((((((((((((((S.nil.cons S 0 rfl).cons S 7 rfl).cons S 6 rfl).cons S 14 rfl).cons S 15 rfl).cons S 16 rfl).cons S 17 rfl).cons S 21 rfl).cons S 22 rfl).cons S 23 rfl).cons S 24 rfl).cons S 25 rfl).cons S 20 rfl).cons S 26 rfl).cons S 27 rfl).cons S 28 rfl).cons S 8 rfl).cons S 9 rfl).cons S 10 rfl).cons S 29 rfl).cons S 30 rfl).cons S 31 rfl).cons S 32 rfl).cons S 33 rfl).cons S 37 rfl, H⟩
        refine wp_seq ?_
        -- region 13 ref.go:45
        refine wp_region_lit ?_
        refine wl_of (op_y (wn rfl) rfl rfl S (y_move rfl S rfl) fun a S => ?_)
        refine wl_of (op_y (wn rfl) rfl rfl S (y_bin rfl S rfl rfl rfl) fun a S => ?_)
        refine wl_of (op_y (wn rfl) rfl rfl S (y_move rfl S rfl) fun a S => ?_)
        refine' wl_or 3 41 rfl S H rfl rfl rfl rfl rfl rfl rfl (fun _ S => (wn rfl)) (fun h6 kk => ?yh6) (fun a w S H => ?_)
        case yh6 =>
          have h6p := h6; try simp only [decide_eq_true_eq, decide_eq_false_iff_not, Bool.or_eq_true, Bool.and_eq_true, Bool.or_eq_false_iff, Bool.and_eq_false_iff, Bool.not_eq_true', Bool.not_eq_false', bne_iff_ne, beq_iff_eq, beq_eq_false_iff_ne, bne_eq_false_iff_eq, ne_eq, Decidable.not_not, Int.not_lt, Int.not_le, gt_iff_lt, ge_iff_le, Bool.true_eq_false, Bool.false_eq_true, not_true_eq_false, not_false_eq_true] at h6p
          refine wl_of (op_y (wg' 41 rfl rfl S rfl h6 rfl) rfl rfl S (y_move rfl S rfl) fun a S => ?_)
          refine wl_of (op_y (wg' 41 rfl rfl S rfl h6 rfl) rfl rfl S (y_move rfl S rfl) fun a S => ?_)
          refine wl_of (op_y (wg' 41 rfl rfl S rfl h6 rfl) rfl rfl S (y_bin rfl S rfl rfl rfl) fun a S => ?_)
          refine wl_of (op_y (wn rfl) rfl rfl S (y_or' rfl h6 S rfl rfl) fun a S => ?_)
          exact kk _ _ (S.join 4 45 rfl rfl) H
        refine wpList_nil ?_
        refine n_then ?_
        -- cond 5 (both ways go on)
        refine c_if S rfl (fun h7 => ?_) (fun h7 => ?_)
        · have h7p := h7; try simp only [decide_eq_true_eq, decide_eq_false_iff_not, Bool.or_eq_true, Bool.and_eq_true, Bool.or_eq_false_iff, Bool.and_eq_false_iff, Bool.not_eq_true', Bool.not_eq_false', bne_iff_ne, beq_iff_eq, beq_eq_false_iff_ne, bne_eq_false_iff_eq, ne_eq, Decidable.not_not, Int.not_lt, Int.not_le, gt_iff_lt, ge_iff_le, Bool.true_eq_false, Bool.false_eq_true, not_true_eq_false, not_false_eq_true] at h7p
          -- region 14 ref.go:46
          refine wp_region_lit ?_
          refine wl_of (op_y (wn rfl) rfl rfl S (y_move rfl S rfl) fun a S => ?_)
          refine wl_of (op_y (wn rfl) rfl rfl S (y_assign rfl S rfl) fun a S => ?_)
          refine wpList_nil ?_
          refine n_block ?_
          refine n_then ?_
          -- region 7 ref.go:37
          refine wp_region_lit ?_
          refine wl_of (op_y (wn rfl) rfl rfl S (y_move rfl S rfl) fun a S => ?_)
          refine wl_of (op_y (wn rfl) rfl rfl S (y_add rfl S rfl rfl (by omega)) fun a S => ?_)
          refine wl_of (op_y (wn rfl) rfl rfl S (y_assign rfl S rfl) fun a S => ?_)
          refine wpList_nil ?_
          refine n_then ?_
          have e5 := maxStep (l.map fun r => (bnd r).1) k (by simp; omega) (bnd l[k]).1 (by simp)
          have e6 := minStep (l.map fun r => (bnd r).2.1) k (by simp; omega) (bnd l[k]).2.1 (by simp)
          rw [h7] at e6; simp only [↓reduceIte, Bool.false_eq_true] at e6
          rw [e5, e6] at S
          refine ⟨k + 1, ((S.nil.cons S 7 rfl).cons S 6 rfl).cons S 5 rfl, S.nil.cons S 0 rfl, H, ⟨by omega, fun j h hj => by by_cases hjk : j < k; exact hgood j h hjk; (obtain rfl : j = k := by omega); exact h3p⟩, by omega⟩
        · have h7p := h7; try simp only [decide_eq_true_eq, decide_eq_false_iff_not, Bool.or_eq_true, Bool.and_eq_true, Bool.or_eq_false_iff, Bool.and_eq_false_iff, Bool.not_eq_true', Bool.not_eq_false', bne_iff_ne, beq_iff_eq, beq_eq_false_iff_ne, bne_eq_false_iff_eq, ne_eq, Decidable.not_not, Int.not_lt, Int.not_le, gt_iff_lt, ge_iff_le, Bool.true_eq_false, Bool.false_eq_true, not_true_eq_false, not_false_eq_true] at h7p
          refine wp_skip ?_
          refine n_block ?_
          refine n_then ?_
          -- region 7 ref.go:37
          refine wp_region_lit ?_
          refine wl_of (op_y (wn rfl) rfl rfl S (y_move rfl S rfl) fun a S => ?_)
          refine wl_of (op_y (wn rfl) rfl rfl S (y_add rfl S rfl rfl (by omega)) fun a S => ?_)
          refine wl_of (op_y (wn rfl) rfl rfl S (y_assign rfl S rfl) fun a S => ?_)
          refine wpList_nil ?_
          refine n_then ?_
          have e5 := maxStep (l.map fun r => (bnd r).1) k (by simp; omega) (bnd l[k]).1 (by simp)
          have e6 := minStep (l.map fun r => (bnd r).2.1) k (by simp; omega) (bnd l[k]).2.1 (by simp)
          rw [h7] at e6; simp only [↓reduceIte, Bool.false_eq_true] at e6
          rw [e5, e6] at S
          refine ⟨k + 1, ((S.nil.cons S 7 rfl).cons S 6 rfl).cons S 5 rfl, S.nil.cons S 0 rfl, H, ⟨by omega, fun j h hj => by by_cases hjk : j < k; exact hgood j h hjk; (obtain rfl : j = k := by omega); exact h3p⟩, by omega⟩
    · have h2p := h2; try simp only [decide_eq_true_eq, decide_eq_false_iff_not, Bool.or_eq_true, Bool.and_eq_true, Bool.or_eq_false_iff, Bool.and_eq_false_iff, Bool.not_eq_true', Bool.not_eq_false', bne_iff_ne, beq_iff_eq, beq_eq_false_iff_ne, bne_eq_false_iff_eq, ne_eq, Decidable.not_not, Int.not_lt, Int.not_le, gt_iff_lt, ge_iff_le, Bool.true_eq_false, Bool.false_eq_true, not_true_eq_false, not_false_eq_true] at h2p
      obtain rfl : k = l.length := by omega
      simp only [takeMap] at S
      have hno : ((l.length : Int) == 0 || l.any (fun r => (bnd r).2.2 != 0)) = false := by rw [h1, Bool.false_or, List.any_eq_false]; intro x hx; obtain ⟨j, hj, rfl⟩ := List.getElem_of_mem hx; simp [hgood j hj hj]
      refine wp_exit ?_
      refine x_then (x_then (x_eq ?_))
      refine n_then ?_
      have S := (S.nil.cons S 6 rfl).cons S 5 rfl
      refine wp_seq ?_
      refine wp_seq ?_
      -- region 15 ref.go:49
      refine wp_region_lit ?_
      refine wl_of (op_y (wn rfl) rfl rfl S (y_move rfl S rfl) fun a S => ?_)
      refine wl_of (op_y (wn rfl) rfl rfl S (y_move rfl S rfl) fun a S => ?_)
      refine wl_of (op_y (wn rfl) rfl rfl S (y_bin rfl S rfl rfl rfl) fun a S => ?_)
      refine wpList_nil ?_
      refine n_then ?_
      -- cond 6
      refine c_if S rfl (fun h8 => ?_) (fun h8 => ?_)
      · have h8p := h8; try simp only [decide_eq_true_eq, decide_eq_false_iff_not, Bool.or_eq_true, Bool.and_eq_true, Bool.or_eq_false_iff, Bool.and_eq_false_iff, Bool.not_eq_true', Bool.not_eq_false', bne_iff_ne, beq_iff_eq, beq_eq_false_iff_ne, bne_eq_false_iff_eq, ne_eq, Decidable.not_not, Int.not_lt, Int.not_le, gt_iff_lt, ge_iff_le, Bool.true_eq_false, Bool.false_eq_true, not_true_eq_false, not_false_eq_true] at h8p
        refine wp_seq ?_
        -- region 16 ref.go:50
        refine wp_region_lit ?_
        refine wl_of (op_y (wn rfl) rfl rfl S (y_assign rfl S rfl) fun a S => ?_)
        refine wl_of (op_y (wn rfl) rfl rfl S (y_assign rfl S rfl) fun a S => ?_)
        refine wl_of (op_y (wn rfl) rfl rfl S (y_assign rfl S rfl) fun a S => ?_)
        refine wpList_nil ?_
        refine n_then ?_
        refine wp_ret ?_
        refine r_then (ret3 rfl S rfl rfl rfl ?_)
        exact ⟨congrArg trip ((agree_ok l hno).trans (if_pos h8p)).symm, H.toExt⟩
      · have h8p := h8; try simp only [decide_eq_true_eq, decide_eq_false_iff_not, Bool.or_eq_true, Bool.and_eq_true, Bool.or_eq_false_iff, Bool.and_eq_false_iff, Bool.not_eq_true', Bool.not_eq_false', bne_iff_ne, beq_iff_eq, beq_eq_false_iff_ne, bne_eq_false_iff_eq, ne_eq, Decidable.not_not, Int.not_lt, Int.not_le, gt_iff_lt, ge_iff_le, Bool.true_eq_false, Bool.false_eq_true, not_true_eq_false, not_false_eq_true] at h8p
        refine wp_skip ?_
        refine n_then ?_
        refine wp_seq ?_
        -- region 17 ref.go:52
        refine wp_region_lit ?_
        refine wl_of (op_y (wn rfl) rfl rfl S (y_move rfl S rfl) fun a S => ?_)
        refine wl_of (op_y (wn rfl) rfl rfl S (y_move rfl S rfl) fun a S => ?_)
        refine wl_of (op_y (wn rfl) rfl rfl S (y_assign rfl S rfl) fun a S => ?_)
        refine wl_of (op_y (wn rfl) rfl rfl S (y_assign rfl S rfl) fun a S => ?_)
        refine wl_of (op_y (wn rfl) rfl rfl S (y_assign rfl S rfl) fun a S => ?_)
        refine wpList_nil ?_
        refine n_then ?_
        have S := ((S.nil.cons S 2 rfl).cons S 3 rfl).cons S 4 rfl
        refine wp_ret ?_
        refine ret3 rfl S rfl rfl rfl ?_
        exact ⟨congrArg trip ((agree_ok l hno).trans (if_neg (by omega))).symm, H.toExt⟩

end Go.Proofs.Ytfblnfkphdimjaa
