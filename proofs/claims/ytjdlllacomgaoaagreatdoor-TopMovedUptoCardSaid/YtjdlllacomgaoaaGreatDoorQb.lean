/- The law TopMoved returns true for every input of bulk at most 1048576, where the listed package variables hold what the row lists; and the row's tied card. No condition beyond the row's own. -/
import Derived.Test.YtjdlllacomgaoaaGreatDoorRows
import Derived.Test.YtjdlllacomgaoaaGreatDoorCards
import Derived.Test.YtjdlllacomgaoaaGreatDoorTie
import Derived.Test.YtjdlllacomgaoaaGreatDoorQb1
import Derived.WalkKit
import Derived.ProofKit
import Derived.OpenShut
import Derived.LaidMore
import Derived.Lay
import Derived.SevenTiedAt
import Derived.Stop.Joined
import Derived.Deep.DeepHandedRow
import Derived.Test.YtjdlllacomgaoaaGreatDoorQb6
namespace Go.Proofs.YtjdlllacomgaoaaGreatDoor.topMoved
open Go.ChangeShapes Go.WideShapes Go.ChangeAt Go.RowKit Go.Gw
set_option linter.unusedVariables false
set_option linter.unusedSimpArgs false
set_option maxRecDepth 100000 in
theorem contract (H : Type) (enc : TypeId × Value → H) (W : World) (base : Nat) (args : Array Value) (ds gs : List (DataW H)) (before : List MemPlace)
    (hval : ∀ (j : Nat) t v, Tryz.f4.params[j]? = some t → args[j]? = some v → Value.okWide Tryz.prog W .any base t v)
    (hW : DataW.Whole enc Tryz.prog Tryz.f4.params.toList Rows.topMovedSpec.vars false W args.toList ds gs before) (hk : Rows.uptoSmall H (ds ++ gs) = true) :
    Calls Tryz.prog 4 args W fun e W' => ∃ v, e = .returned v ∧ Rows.topMovedSpec.post enc Tryz.prog Tryz.f4 false true false false W args v W' := by
  have hW' := hW
  obtain ⟨p, q, hA0, hV, rfl, _, _⟩ := hW
  have hA : DataW.TrodAll enc Tryz.prog W 0 (fun _ => true) true Tryz.f4.params.toList args.toList ds p := hA0
  rw [Tryz.params4] at hA hval
  clear hA0
  obtain ⟨v0, vs0, d0, ds0, p0, q0, hargs0, rfl, rfl, h0, r0⟩ := trodAll_cons hA
  obtain ⟨v1, vs1, d1, ds1, p1, q1, hargs1, rfl, rfl, h1, r1⟩ := trodAll_cons r0
  obtain ⟨v2, vs2, d2, ds2, p2, q2, hargs2, rfl, rfl, h2, r2⟩ := trodAll_cons r1
  obtain ⟨v3, vs3, d3, ds3, p3, q3, hargs3, rfl, rfl, h3, r3⟩ := trodAll_cons r2
  obtain ⟨rfl, rfl, rfl⟩ := trodAll_nil r3
  obtain rfl : args = #[v0, v1, v2, v3] := by cases args; simp_all
  obtain ⟨h, rfl, g0, m0⟩ := arg_stM Tryz.underlying26 (readsHall W) (hval 0 26 v0 rfl rfl) h0
  have B0 := hall_b g0 (Nat.le_trans m0 (bulk_at hk (by simp)))
  obtain ⟨g, rfl, g1, m1⟩ := arg_stM Tryz.underlying26 (readsHall W) (hval 1 26 v1 rfl rfl) h1
  have B1 := hall_b g1 (Nat.le_trans m1 (bulk_at hk (by simp)))
  obtain ⟨cs, s2, k2, g2⟩ := arg_sl (sz := 1) Tryz.underlying27 (by kernel_rfl) (by decide) (readsC16 W) (hval 2 27 v2 rfl rfl) h2
  obtain ⟨got, s3, k3, g3⟩ := arg_sl (sz := 1) Tryz.underlying37 (by kernel_rfl) (by decide) (readsI.at_) (hval 3 37 v3 rfl rfl) h3
  refine Calls.mono (moved_law h g v2 cs v3 got W (hall_ok g0) B0 (hall_ok g1) B1 s2 g2 s3) fun e W' ⟨v, he, hv, hx⟩ => ?_
  subst hv
  exact ⟨_, he, law_post hW' rfl laidOut (by kernel_rfl) (by kernel_rfl) Tryz.underlying4 rfl hx⟩
set_option maxRecDepth 100000 in
theorem lifted (os : Os) (started : os.Started) (H : Type) (enc : TypeId × Value → H) (F : Stop.Interp) :
    ReturnsInHanded {} Tryz.checked os 4 .any ((Rows.OpenSpec.upto Rows.topMovedSpec).preRow enc Tryz.prog Tryz.f4 Rows.topMovedUptoRow.domain false Rows.topMovedUptoRow.laid) (((Rows.OpenSpec.upto Rows.topMovedSpec).at F).post enc Tryz.prog Tryz.f4 false true false false) := by
  refine returnsInHanded_of_row (C := Tryz.checked) (s := Rows.OpenSpec.upto Rows.topMovedSpec) ownLaw started (by kernel_rfl) Tryz.func4 ?_ ?_
  · have hok : Input.okWideB Tryz.prog ((World.laidAll Tryz.prog os Rows.topMovedUptoRow.laid).forCall (fun _ _ => 0) ⟨#[], #[.agg #[.string ⟨#[]⟩, .int .i64 0, .int .i64 0, .slice none 0 0], .agg #[.string ⟨#[]⟩, .int .i64 0, .int .i64 0, .slice none 0 0], .slice none 0 0, .slice none 0 0], []⟩) 4 ⟨#[], #[.agg #[.string ⟨#[]⟩, .int .i64 0, .int .i64 0, .slice none 0 0], .agg #[.string ⟨#[]⟩, .int .i64 0, .int .i64 0, .slice none 0 0], .slice none 0 0, .slice none 0 0], []⟩ = true := by kernel_rfl
    obtain ⟨places, hx⟩ : ∃ places, DataW.whole enc Tryz.prog ((World.laidAll Tryz.prog os Rows.topMovedUptoRow.laid).forCall (fun _ _ => 0) ⟨#[], #[.agg #[.string ⟨#[]⟩, .int .i64 0, .int .i64 0, .slice none 0 0], .agg #[.string ⟨#[]⟩, .int .i64 0, .int .i64 0, .slice none 0 0], .slice none 0 0, .slice none 0 0], []⟩).memory Tryz.f4.params.toList Rows.topMovedSpec.vars false (#[.agg #[.string ⟨#[]⟩, .int .i64 0, .int .i64 0, .slice none 0 0], .agg #[.string ⟨#[]⟩, .int .i64 0, .int .i64 0, .slice none 0 0], .slice none 0 0, .slice none 0 0] : Array Value).toList 8 = some ([.agg [.lit (.string []), .agg [.lit (.int .i64 0), .lit (.int .i64 0)], .nil], .agg [.lit (.string []), .agg [.lit (.int .i64 0), .lit (.int .i64 0)], .nil], .nil, .nil], [], places) := ⟨[], by kernel_rfl⟩
    refine ⟨World.laidAll Tryz.prog os Rows.topMovedUptoRow.laid, fun _ _ => 0, ⟨#[], #[.agg #[.string ⟨#[]⟩, .int .i64 0, .int .i64 0, .slice none 0 0], .agg #[.string ⟨#[]⟩, .int .i64 0, .int .i64 0, .slice none 0 0], .slice none 0 0, .slice none 0 0], []⟩, World.laidAll_os _ _ _, World.shaped_of_ZipB (by kernel_rfl) (by kernel_rfl), (Input.okWide_of_okWideB (base := 0) hok).1, (Input.okWide_of_okWideB hok).2,
      OpenSpec.preRow_of_cond 8 hx (by kernel_rfl) (fun k hk => by cases hk; kernel_rfl) (by kernel_rfl) ?_, ?_⟩
    · rw [MakeChecks.laidMetH_plain _ _ _ (by kernel_rfl)]; exact laidMet_laidAll _ (by kernel_rfl) (by kernel_rfl)
    simp only [Assume.holds]
    exact ⟨by simp, by simp, fun _ => Modest.zero, by simp, by simp⟩
  intro W base args ds gs before hval hW _ hcond _ _ _ _
  exact contract H enc W base args ds gs before hval hW (hcond _ rfl)
theorem said : Rows.TopMovedUptoSaid :=
  OpenClaim.holds_of_cond 4 Tryz.f4 rfl rfl rfl rfl rfl rfl rfl ⟨rfl, rfl, rfl, rfl, rfl⟩ rfl rfl rfl rfl rfl (by kernel_rfl) Tryz.func4 (by kernel_rfl)
    (of_decide_eq_true (by kernel_rfl)) (by unfold Func.isWrapper; first | (rw [if_pos (by decide +kernel)]; kernel_rfl) | (rw [if_neg (by decide +kernel)]; exact ⟨rfl, rfl⟩))
    (fun os started H enc _ F => by rw [OpenClaim.pre_eq_preRow]; exact lifted os started H enc F)
theorem proved : Rows.TopMovedUptoCardSaid :=
  Claim7.holds_tied_plain_at .later [] [.data, .data, .data, .sentinel, .sentinel] true (true, "e80afda66c3fc4da4f13d01e96f8fd2ad758fc79e3c5c440565c351ddd1775ce") true said (fun _ h => by cases h) (by kernel_rfl) (fun _ h => by cases h) topMovedUpto_row_tie rfl ⟨rfl, rfl⟩ (by kernel_rfl) rfl
    (fun f fn hf hfn => by
      obtain rfl : f = 4 := Option.some.inj ((show Tryz.prog.funcNamed "foyer/foyertop.TopMoved" = some 4 by kernel_rfl).symm.trans hf) |>.symm
      obtain rfl : fn = Tryz.f4 := (Option.some.inj (Tryz.func4.symm.trans hfn)).symm
      exact ⟨by kernel_rfl, fun j t ht => by
        rw [Tryz.params4] at ht
        have hm : t ∈ [26, 26, 27, 37] := by simpa using Array.mem_of_getElem? ht
        have hall : ([26, 26, 27, 37].all fun u => !Tryz.prog.wantsStandIn u) = true := by kernel_rfl
        exact (show Tryz.prog.wantsStandIn t = false by simpa using List.all_eq_true.1 hall t hm)⟩)
    (by kernel_rfl)
end Go.Proofs.YtjdlllacomgaoaaGreatDoor.topMoved
