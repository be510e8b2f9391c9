/- The law MatchGreatest returns true for every input. No condition. -/
import Derived.Test.YtaiohhcjbdjgfaaRows
import Derived.Test.YtaiohhcjbdjgfaaCommon
import Derived.WalkKit
namespace Go.Proofs.Ytaiohhcjbdjgfaa.matchGreatest
open Go.ChangeShapes Go.WideShapes Go.ChangeAt Go.RowKit Go.Gw
set_option linter.unusedVariables false
set_option linter.unusedSimpArgs false

theorem contract (H : Type) (enc : TypeId × Value → H) (W : World) (base : Nat) (args : Array Value) (ds gs : List (DataW H)) (before : List MemPlace)
    (hval : ∀ (j : Nat) t v, Try.f5.params[j]? = some t → args[j]? = some v → Value.okWide Try.prog W .any base t v)
    (hW : DataW.Whole enc Try.prog Try.f5.params.toList Rows.matchGreatestSpec.vars false W args.toList ds gs before)
    (hz : (DataW.weightsEach Try.prog (Try.f5.params.toList ++ Rows.matchGreatestSpec.plain.varTypes Try.prog) (ds ++ gs)).all (· ≤ reachBytes) = true) :
    Calls Try.prog 5 args W fun e W' => ∃ v, e = .returned v ∧ Rows.matchGreatestSpec.post enc Try.prog Try.f5 false true false false W args v W' := by
  have hW' := hW
  obtain ⟨p, q, hA0, hV, rfl, _, _⟩ := hW
  have hA : DataW.TrodAll enc Try.prog W 0 (fun _ => true) true Try.f5.params.toList args.toList ds p := hA0
  rw [Try.params5] at hA hval hz
  clear hA0
  obtain ⟨v0, vs0, d0, ds0, p0, q0, hargs0, rfl, rfl, h0, r0⟩ := trodAll_cons hA
  obtain ⟨v1, vs1, d1, ds1, p1, q1, hargs1, rfl, rfl, h1, r1⟩ := trodAll_cons r0
  obtain ⟨v2, vs2, d2, ds2, p2, q2, hargs2, rfl, rfl, h2, r2⟩ := trodAll_cons r1
  obtain ⟨v3, vs3, d3, ds3, p3, q3, hargs3, rfl, rfl, h3, r3⟩ := trodAll_cons r2
  obtain ⟨v4, vs4, d4, ds4, p4, q4, hargs4, rfl, rfl, h4, r4⟩ := trodAll_cons r3
  obtain ⟨v5, vs5, d5, ds5, p5, q5, hargs5, rfl, rfl, h5, r5⟩ := trodAll_cons r4
  obtain ⟨rfl, rfl, rfl⟩ := trodAll_nil r5
  obtain rfl : args = #[v0, v1, v2, v3, v4, v5] := by cases args; simp_all
  obtain ⟨ps, s0, k0, g0⟩ := arg_sl (sz := 1) Try.underlying22 (by kernel_rfl) (by decide) (readsRow W) (hval 0 22 v0 rfl rfl) h0
  obtain ⟨right, rfl, _, _, w1⟩ := open_int Try.underlying3 (hval 1 3 v1 rfl rfl) h1
  obtain ⟨got, s2, k2, g2⟩ := arg_sl (sz := 1) Try.underlying23 (by kernel_rfl) (by decide) (readsI.at_) (hval 2 23 v2 rfl rfl) h2
  obtain ⟨other, s3, k3, g3⟩ := arg_sl (sz := 1) Try.underlying23 (by kernel_rfl) (by decide) (readsI.at_) (hval 3 23 v3 rfl rfl) h3
  obtain ⟨⟨⟨cl, ca⟩, ⟨cr, cb⟩⟩, rfl, g4⟩ := arg_st Try.underlying25 (readsC W) (hval 4 25 v4 rfl rfl) h4
  obtain ⟨⟨⟨dl, da⟩, ⟨dr, db⟩⟩, rfl, g5⟩ := arg_st Try.underlying25 (readsC W) (hval 5 25 v5 rfl rfl) h5
  have hz2 : ∀ n ∈ DataW.weightsEach Try.prog _ _, n ≤ reachBytes := fun n hn => of_decide_eq_true (List.all_eq_true.1 hz n hn)
  have y2 := arg_len (by_ := 8) Try.underlying23 (by kernel_rfl) s2 h2 (fun n hn => hz2 n (weightsEach_mem 2 rfl rfl n hn))
  have y3 := arg_len (by_ := 8) Try.underlying23 (by kernel_rfl) s3 h3 (fun n hn => hz2 n (weightsEach_mem 3 rfl rfl n hn))
  have y4 := field_len (by_ := 8) (i := 0) Try.underlying25 rfl rfl Try.underlying23 (by kernel_rfl) (by kernel_rfl) (vs := encC ((cl, ca), (cr, cb))) rfl g4.1.1 h4 (fun n hn => hz2 n (weightsEach_mem 4 rfl rfl n hn))
  have y5 := field_len (by_ := 8) (i := 1) Try.underlying25 rfl rfl Try.underlying23 (by kernel_rfl) (by kernel_rfl) (vs := encC ((cl, ca), (cr, cb))) rfl g4.2.1 h4 (fun n hn => hz2 n (weightsEach_mem 4 rfl rfl n hn))
  have y6 := field_len (by_ := 8) (i := 0) Try.underlying25 rfl rfl Try.underlying23 (by kernel_rfl) (by kernel_rfl) (vs := encC ((dl, da), (dr, db))) rfl g5.1.1 h5 (fun n hn => hz2 n (weightsEach_mem 5 rfl rfl n hn))
  have y7 := field_len (by_ := 8) (i := 1) Try.underlying25 rfl rfl Try.underlying23 (by kernel_rfl) (by kernel_rfl) (vs := encC ((dl, da), (dr, db))) rfl g5.2.1 h5 (fun n hn => hz2 n (weightsEach_mem 5 rfl rfl n hn))
  have hre : reachBytes = 140737488351232 := by decide
  rw [hre] at y2 y3 y4 y5 y6 y7
  dsimp only at y4 y5 y6 y7
  refine Calls.mono (law3 v0 ps right v2 got v3 other cl cr dl dr ca cb da db W s0 (fun p hp => (g0 p hp).1) s2 s3 g4.1.1 g4.2.1 g5.1.1 g5.2.1 g4.1.2 ⟨by omega, by omega, by omega, by omega, by omega, by omega⟩) fun e W' ⟨v, he, hv, hx⟩ => ?_
  subst hv
  exact ⟨_, he, law_post hW' rfl Try.laid (by kernel_rfl) (by kernel_rfl) Try.underlying4 rfl hx⟩

set_option maxRecDepth 100000 in
theorem lifted (os : Os) (started : os.Started) (H : Type) (enc : TypeId × Value → H) :
    ReturnsInHanded {} Try.checked os 5 .any (Rows.matchGreatestSpec.pre6 enc Try.prog Try.f5 Rows.matchGreatestRow.domain false) (Rows.matchGreatestSpec.post enc Try.prog Try.f5 false true false false) := by
  refine returnsInHanded_sized (C := Try.checked) Try.ownLaw started (by kernel_rfl) Try.func5
    (ChangeSpec.witness6 (enc := enc) (C := Try.checked) false ⟨#[], #[.slice none 0 0, .int .i64 0, .slice none 0 0, .slice none 0 0, .agg #[.slice none 0 0, .slice none 0 0], .agg #[.slice none 0 0, .slice none 0 0]], []⟩ 8 (by kernel_rfl) (by kernel_rfl) (by kernel_rfl) (by kernel_rfl)) ?_
  intro W base args ds gs before hval hW hz
  exact contract H enc W base args ds gs before hval hW hz

theorem proved : Rows.MatchGreatestSaid :=
  OpenClaim.holds_of_wide 5 Try.f5 rfl rfl rfl rfl rfl rfl rfl ⟨rfl, rfl, rfl, rfl, rfl⟩ rfl rfl rfl rfl rfl (by kernel_rfl) Try.func5 (by kernel_rfl)
    (of_decide_eq_true (by kernel_rfl)) (by unfold Func.isWrapper; first | (rw [if_pos (by decide +kernel)]; kernel_rfl) | (rw [if_neg (by decide +kernel)]; exact ⟨rfl, rfl⟩))
    (fun os started H enc _ => lifted os started H enc)
end Go.Proofs.Ytaiohhcjbdjgfaa.matchGreatest
