/- The law TwinOrder returns true for every input. No condition. -/
import Derived.Test.YtnnendajegdnhaaRows
import Derived.Test.YtnnendajegdnhaaT15
import Derived.Test.YtnnendajegdnhaaCommon
import Derived.WalkKit
namespace Go.Proofs.Ytnnendajegdnhaa.twinOrder
open Go.ChangeShapes Go.WideShapes Go.ChangeAt Go.RowKit Go.Gw
set_option linter.unusedVariables false
set_option linter.unusedSimpArgs false
set_option maxRecDepth 100000 in
theorem contract (H : Type) (enc : TypeId × Value → H) (W : World) (base : Nat) (args : Array Value) (ds gs : List (DataW H)) (before : List MemPlace)
    (hval : ∀ (j : Nat) t v, Try.f6.params[j]? = some t → args[j]? = some v → Value.okWide Try.prog W .any base t v)
    (hW : DataW.Whole enc Try.prog Try.f6.params.toList Rows.twinOrderSpec.vars false W args.toList ds gs before) :
    Calls Try.prog 6 args W fun e W' => ∃ v, e = .returned v ∧ Rows.twinOrderSpec.post enc Try.prog Try.f6 false true false false W args v W' := by
  have hW' := hW
  obtain ⟨p, q, hA0, hV, rfl, _, _⟩ := hW
  have hA : DataW.TrodAll enc Try.prog W 0 (fun _ => true) true Try.f6.params.toList args.toList ds p := hA0
  rw [Try.params6] at hA hval
  clear hA0
  obtain ⟨v0, vs0, d0, ds0, p0, q0, hargs0, rfl, rfl, h0, r0⟩ := trodAll_cons hA
  obtain ⟨v1, vs1, d1, ds1, p1, q1, hargs1, rfl, rfl, h1, r1⟩ := trodAll_cons r0
  obtain ⟨v2, vs2, d2, ds2, p2, q2, hargs2, rfl, rfl, h2, r2⟩ := trodAll_cons r1
  obtain ⟨v3, vs3, d3, ds3, p3, q3, hargs3, rfl, rfl, h3, r3⟩ := trodAll_cons r2
  obtain ⟨v4, vs4, d4, ds4, p4, q4, hargs4, rfl, rfl, h4, r4⟩ := trodAll_cons r3
  obtain ⟨rfl, rfl, rfl⟩ := trodAll_nil r4
  obtain rfl : args = #[v0, v1, v2, v3, v4] := by cases args; simp_all
  obtain ⟨old, s0, k0, g0⟩ := arg_sl (sz := 9) Try.underlying22 (by kernel_rfl) (by decide) (readsPl.at_) (hval 0 22 v0 rfl rfl) h0
  obtain ⟨next, s1, k1, g1⟩ := arg_sl (sz := 9) Try.underlying22 (by kernel_rfl) (by decide) (readsPl.at_) (hval 1 22 v1 rfl rfl) h1
  obtain ⟨ts, s2, k2, g2⟩ := arg_sl (sz := 11) Try.underlying23 (by kernel_rfl) (by decide) (readsOw W) (hval 2 23 v2 rfl rfl) h2
  obtain ⟨sell, s3, k3, g3⟩ := arg_sl (sz := 1) Try.underlying68 (by kernel_rfl) (by decide) (readsU.at_) (hval 3 68 v3 rfl rfl) h3
  obtain ⟨by_, rfl, _, _, w4⟩ := open_int Try.underlying5 (hval 4 5 v4 rfl rfl) h4
  have b_by_ := u8b w4
  obtain ⟨by_, rfl⟩ : ∃ n : Nat, by_ = n := ⟨by_.toNat, by omega⟩
  refine Calls.mono (law4 v0 v1 old next v2 ts v3 sell by_ (by omega) W s0 s1 s2 (fun o ho => (g2 o ho).1) s3 (fun x hx => u8b (g3 x hx))) fun e W' ⟨v, he, hv, hx⟩ => ?_
  subst hv
  exact ⟨_, he, law_post hW' rfl Try.laid (by kernel_rfl) (by kernel_rfl) Try.underlying4 rfl hx⟩
set_option maxRecDepth 100000 in
theorem lifted (os : Os) (started : os.Started) (H : Type) (enc : TypeId × Value → H) :
    ReturnsInHanded {} Try.checked os 6 .any (Rows.twinOrderSpec.pre6 enc Try.prog Try.f6 Rows.twinOrderRow.domain false) (Rows.twinOrderSpec.post enc Try.prog Try.f6 false true false false) := by
  refine returnsInHanded_of_change (C := Try.checked) Try.ownLaw started (by kernel_rfl) Try.func6
    (ChangeSpec.witness6 (enc := enc) (C := Try.checked) false ⟨#[], #[.slice none 0 0, .slice none 0 0, .slice none 0 0, .slice none 0 0, .int .u8 0], []⟩ 8 (by kernel_rfl) (by kernel_rfl) (by kernel_rfl) (by kernel_rfl)) ?_
  intro W base args ds gs before hval hW _ _
  exact contract H enc W base args ds gs before hval hW
theorem proved : Rows.TwinOrderSaid :=
  OpenClaim.holds_of_wide 6 Try.f6 rfl rfl rfl rfl rfl rfl rfl ⟨rfl, rfl, rfl, rfl, rfl⟩ rfl rfl rfl rfl rfl (by kernel_rfl) Try.func6 (by kernel_rfl)
    (of_decide_eq_true (by kernel_rfl)) (by unfold Func.isWrapper; first | (rw [if_pos (by decide +kernel)]; kernel_rfl) | (rw [if_neg (by decide +kernel)]; exact ⟨rfl, rfl⟩))
    (fun os started H enc _ => lifted os started H enc)
end Go.Proofs.Ytnnendajegdnhaa.twinOrder
