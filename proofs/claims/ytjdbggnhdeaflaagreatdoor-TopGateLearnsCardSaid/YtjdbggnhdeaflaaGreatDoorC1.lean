/- The law TopGateLearns returns true for every input, where the listed package variables hold what the row lists; and the row's tied card. No condition beyond the row's own. -/
import Derived.Test.YtjdbggnhdeaflaaGreatDoorRows
import Derived.Test.YtjdbggnhdeaflaaGreatDoorCards
import Derived.Test.YtjdbggnhdeaflaaGreatDoorTie
import Derived.Test.YtjdbggnhdeaflaaGreatDoorM1
import Derived.WalkKit
import Derived.ProofKit
import Derived.OpenShut
import Derived.LaidMore
import Derived.Lay
import Derived.SevenTiedAt
import Derived.Stop.Joined
import Derived.ChangeMaps5
import Derived.Test.YtjdbggnhdeaflaaGreatDoorM5
namespace Go.Proofs.YtjdbggnhdeaflaaGreatDoor.topGateLearns
open Go.ChangeShapes Go.WideShapes Go.ChangeAt Go.RowKit Go.Gw
set_option linter.unusedVariables false
set_option linter.unusedSimpArgs false
set_option maxRecDepth 100000 in
theorem contract (H : Type) (enc : TypeId × Value → H) (W : World) (base : Nat) (args : Array Value) (ds gs : List (DataW H)) (before : List MemPlace)
    (hval : ∀ (j : Nat) t v, Tryz.f3.params[j]? = some t → args[j]? = some v → Value.okWide Tryz.prog W .any base t v)
    (hW : DataW.Whole enc Tryz.prog Tryz.f3.params.toList Rows.topGateLearnsSpec.vars false W args.toList ds gs before)
    (hZ : (DataW.weightsEach Tryz.prog (Tryz.f3.params.toList ++ Rows.topGateLearnsSpec.plain.varTypes Tryz.prog) (ds ++ gs)).all (· ≤ reachBytes) = true) (hT : Tabs W) (hB : TabBs W) :
    Calls Tryz.prog 3 args W fun e W' => ∃ v, e = .returned v ∧ Rows.topGateLearnsSpec.post enc Tryz.prog Tryz.f3 false true false false W args v W' := by
  have hW' := hW
  obtain ⟨p, q, hA0, hV, rfl, _, _⟩ := hW
  have hA : DataW.TrodAll enc Tryz.prog W 0 (fun _ => true) true Tryz.f3.params.toList args.toList ds p := hA0
  rw [Tryz.params3] at hA hval hZ
  clear hA0
  obtain ⟨v0, vs0, d0, ds0, p0, q0, hargs0, rfl, rfl, h0, r0⟩ := trodAll_cons hA
  obtain ⟨v1, vs1, d1, ds1, p1, q1, hargs1, rfl, rfl, h1, r1⟩ := trodAll_cons r0
  obtain ⟨v2, vs2, d2, ds2, p2, q2, hargs2, rfl, rfl, h2, r2⟩ := trodAll_cons r1
  obtain ⟨v3, vs3, d3, ds3, p3, q3, hargs3, rfl, rfl, h3, r3⟩ := trodAll_cons r2
  obtain ⟨v4, vs4, d4, ds4, p4, q4, hargs4, rfl, rfl, h4, r4⟩ := trodAll_cons r3
  obtain ⟨v5, vs5, d5, ds5, p5, q5, hargs5, rfl, rfl, h5, r5⟩ := trodAll_cons r4
  obtain ⟨v6, vs6, d6, ds6, p6, q6, hargs6, rfl, rfl, h6, r6⟩ := trodAll_cons r5
  obtain ⟨v7, vs7, d7, ds7, p7, q7, hargs7, rfl, rfl, h7, r7⟩ := trodAll_cons r6
  obtain ⟨v8, vs8, d8, ds8, p8, q8, hargs8, rfl, rfl, h8, r8⟩ := trodAll_cons r7
  obtain ⟨rfl, rfl, rfl⟩ := trodAll_nil r8
  obtain rfl : args = #[v0, v1, v2, v3, v4, v5, v6, v7, v8] := by cases args; simp_all
  obtain ⟨fs, s0, k0, g0⟩ := arg_sl (sz := 1) Tryz.underlying22 (by kernel_rfl) (by decide) (readsS W) (hval 0 22 v0 rfl rfl) h0
  obtain ⟨os, s1, k1, g1⟩ := arg_sl (sz := 1) Tryz.underlying22 (by kernel_rfl) (by decide) (readsS W) (hval 1 22 v1 rfl rfl) h1
  obtain ⟨s, rfl, rfl, rfl, _⟩ := Go.ChangeMaps.open_string Tryz.underlying9 (hval 2 9 v2 rfl rfl) h2
  obtain ⟨t, rfl, rfl, rfl, _⟩ := Go.ChangeMaps.open_string Tryz.underlying9 (hval 3 9 v3 rfl rfl) h3
  obtain ⟨bs, s4, k4, g4⟩ := arg_sl (sz := 1) Tryz.underlying23 (by kernel_rfl) (by decide) (readsQ W) (hval 4 23 v4 rfl rfl) h4
  obtain ⟨m1, rfl, rfl, rfl, _⟩ := Go.ChangeMaps.open_string Tryz.underlying9 (hval 5 9 v5 rfl rfl) h5
  obtain ⟨m2, rfl, rfl, rfl, _⟩ := Go.ChangeMaps.open_string Tryz.underlying9 (hval 6 9 v6 rfl rfl) h6
  obtain ⟨rs, s7, k7, g7⟩ := arg_sl (sz := 1) Tryz.underlying24 (by kernel_rfl) (by decide) (readsC W) (hval 7 24 v7 rfl rfl) h7
  obtain ⟨cs, s8, k8, g8⟩ := arg_sl (sz := 1) Tryz.underlying24 (by kernel_rfl) (by decide) (readsC W) (hval 8 24 v8 rfl rfl) h8
  have z2 := weigh (s := s) 2 hZ rfl rfl
  have z3 := weigh (s := t) 3 hZ rfl rfl
  have z5 := weigh (s := m1) 5 hZ rfl rfl
  have z6 := weigh (s := m2) 6 hZ rfl rfl
  refine Calls.mono (learns_law v0 fs v1 os s t v4 bs m1 m2 v7 rs v8 cs W hT hB s0 s1 s4 s7 s8 g7 g8 ⟨z2, z3, z5, z6⟩) fun e W' ⟨v, he, hv, hx⟩ => ?_
  subst hv
  exact ⟨_, he, law_post hW' rfl laidOut (by kernel_rfl) (by kernel_rfl) Tryz.underlying4 rfl hx⟩
set_option maxRecDepth 100000 in
theorem lifted (os : Os) (started : os.Started) (H : Type) (enc : TypeId × Value → H) :
    ReturnsInHanded {} Tryz.checked os 3 .any (fun w args => (Rows.topGateLearnsSpec.pre enc Tryz.prog Tryz.f3 Rows.topGateLearnsRow.domain false w args ∧ laidMetH Tryz.prog Rows.topGateLearnsRow.laid w) ∧ sizedMet enc Tryz.prog Tryz.f3 (OpenSpec.ofChange Rows.topGateLearnsSpec) false w args)
      (Rows.topGateLearnsSpec.post enc Tryz.prog Tryz.f3 false true false false) := by
  refine returnsInHanded_of_change_and (C := Tryz.checked) (X := fun w _ => laidMetH Tryz.prog Rows.topGateLearnsRow.laid w) (fun _ _ _ hh h => h.of_heap hh) ownLaw started (by kernel_rfl) Tryz.func3
    (ChangeSpec.witness_shaped (enc := enc) (C := Tryz.checked) (os := os) (X := fun w _ => laidMetH Tryz.prog Rows.topGateLearnsRow.laid w) false (World.laidAll Tryz.prog os Rows.topGateLearnsRow.laid) #[.slice none 0 0, .slice none 0 0, .string ⟨#[]⟩, .string ⟨#[]⟩, .slice none 0 0, .string ⟨#[]⟩, .string ⟨#[]⟩, .slice none 0 0, .slice none 0 0] 8 (World.laidAll_os _ _ _)
      (World.shaped_of_ZipB (by kernel_rfl) (by kernel_rfl)) (by kernel_rfl) (by kernel_rfl) (by kernel_rfl)
      (by rw [MakeChecks.laidMetH_plain _ _ _ (by kernel_rfl)]; exact laidMet_laidAll _ (by kernel_rfl) (by kernel_rfl))) ?_
  intro W base args ds gs before hval hW _ hZ hL _
  exact contract H enc W base args ds gs before hval hW hZ (tabs_of hL).1 (tabs_of hL).2
theorem said : Rows.TopGateLearnsSaid :=
  OpenClaim.holds_of_wide 3 Tryz.f3 rfl rfl rfl rfl rfl rfl rfl ⟨rfl, rfl, rfl, rfl, rfl⟩ rfl rfl rfl rfl rfl (by kernel_rfl) Tryz.func3 (by kernel_rfl)
    (of_decide_eq_true (by kernel_rfl)) (by unfold Func.isWrapper; first | (rw [if_pos (by decide +kernel)]; kernel_rfl) | (rw [if_neg (by decide +kernel)]; exact ⟨rfl, rfl⟩))
    (fun os started H enc _ => lifted os started H enc)
theorem proved : Rows.TopGateLearnsCardSaid :=
  Claim7.holds_tied_plain_at .later [] [.data, .data, .data, .data, .sentinel, .sentinel, .data, .pinned] true (true, "f5a249661bfc30dcfe81518bec1716f463145a2d9881e0efb2ac1e4cde44b4b9") true said (fun _ h => by cases h) (by kernel_rfl) (fun _ h => by cases h) topGateLearns_row_tie rfl ⟨rfl, rfl⟩ (by kernel_rfl) rfl
    (fun f fn hf hfn => by
      obtain rfl : f = 3 := Option.some.inj ((show Tryz.prog.funcNamed "foyer/foyertop.TopGateLearns" = some 3 by kernel_rfl).symm.trans hf) |>.symm
      obtain rfl : fn = Tryz.f3 := (Option.some.inj (Tryz.func3.symm.trans hfn)).symm
      exact ⟨by kernel_rfl, fun j t ht => by
        rw [Tryz.params3] at ht
        have hm : t ∈ [22, 22, 9, 9, 23, 9, 9, 24, 24] := by simpa using Array.mem_of_getElem? ht
        have hall : ([22, 22, 9, 9, 23, 9, 9, 24, 24].all fun u => !Tryz.prog.wantsStandIn u) = true := by kernel_rfl
        exact (show Tryz.prog.wantsStandIn t = false by simpa using List.all_eq_true.1 hall t hm)⟩)
    (by kernel_rfl)
end Go.Proofs.YtjdbggnhdeaflaaGreatDoor.topGateLearns
