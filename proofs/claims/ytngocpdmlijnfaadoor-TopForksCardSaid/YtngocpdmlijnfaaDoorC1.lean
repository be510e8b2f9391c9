/- The law TopForks returns true for every input, where the listed package variables hold what the row lists; and the row's tied card. No condition beyond the row's own. -/
import Derived.Test.YtngocpdmlijnfaaDoorRows
import Derived.Test.YtngocpdmlijnfaaDoorCards
import Derived.Test.YtngocpdmlijnfaaDoorTie
import Derived.Test.YtngocpdmlijnfaaDoorW12
import Derived.Test.YtngocpdmlijnfaaDoorPlainK
import Derived.Test.YtngocpdmlijnfaaDoorGwArg
import Derived.WalkKit
import Derived.ProofKit
import Derived.OpenShut
import Derived.LaidMore
import Derived.Lay
import Derived.SevenTiedAt
import Derived.Stop.Joined
namespace Go.Proofs.YtngocpdmlijnfaaDoor.topForks
open Go.ChangeShapes Go.WideShapes Go.ChangeAt Go.RowKit Go.Gw
set_option linter.unusedVariables false
set_option linter.unusedSimpArgs false
theorem ownLaw : ownKnob Tryd.prog.godebug = none := by kernel_rfl
theorem laidOut : laidOutB Tryd.prog = true := by kernel_rfl
theorem readsI : ReadsAs Tryd.prog 3 (fun n : Int => [.int .i64 n]) (fun n => -9223372036854775808 ≤ n ∧ n ≤ 9223372036854775807) := fun h => by
  obtain ⟨y, h1, h2⟩ := readsInt Tryd.underlying3 h
  exact ⟨y, h1, bounds_i64 h2⟩
theorem readsStr : ReadsAs Tryd.prog 9 encS (fun _ => True) := fun h => by
  obtain ⟨s, h1, _, _⟩ := DataW.trod_string Tryd.underlying9 h
  exact ⟨s, h1, trivial⟩
theorem readsX (W : World) : ReadsAt Tryd.prog W 32 encX (fun x => IsSl W x.sv 1 encS x.sig) :=
  ReadsAt.mono (reads_struct (ts := [9, 30]) Tryd.underlying32 (by kernel_rfl) (readsL_cons readsStr.at_ (readsL_cons (reads_slice (sz := 1) Tryd.underlying30 (by kernel_rfl) (by decide) readsStr.at_) readsL_nil)))
    (fun y => ⟨y.1, y.2.1.1, y.2.1.2⟩) (fun y _ => rfl) (fun y h => h.2.1.1)
theorem readsT (W : World) : ReadsAt Tryd.prog W 24 encT (fun t => TOk W t ∧ RgT t) :=
  ReadsAt.mono (reads_struct (ts := [3, 3, 3, 9, 22]) Tryd.underlying24 (by kernel_rfl)
    (readsL_cons readsI.at_ (readsL_cons readsI.at_ (readsL_cons readsI.at_ (readsL_cons readsStr.at_ (readsL_cons (reads_slice (sz := 2) Tryd.underlying22 (by kernel_rfl) (by decide) (readsX W)) readsL_nil))))))
    (fun y => ⟨y.1, y.2.1, y.2.2.1, y.2.2.2.1, y.2.2.2.2.1.1, y.2.2.2.2.1.2⟩) (fun y _ => rfl) (fun y h => ⟨⟨h.2.2.2.2.1.1, h.2.2.2.2.1.2.1, h.2.2.2.2.1.2.2⟩, ⟨h.1, h.2.1, h.2.2.1⟩⟩)
/-- a table that stands somewhere on the list -/
theorem tab_of_vars {P : Program} {W : World} {name : String} {k : IntKind} {zs : List Int} {rest : List (String × DataW Unit)} {ps : List MemPlace} {g : Nat} {t e : TypeId} {n : Nat}
    (hg : P.globalNamed name = some g) (hty : (P.globals[g]?).map (·.type) = some t) (ht : P.underlying t = some (.array n e)) (he : P.underlying e = some (.int k)) (hce : P.cellsOf e = 1) (hct : P.cellsOf t = n)
    (h : DataW.LaidVars P W ((name, Go.Lib.tabData k zs) :: rest) ps) : Go.Lib.TabIs P W name k zs ∧ ∃ q, DataW.LaidVars P W rest q := by
  obtain ⟨g', t', cs, fuel, p, q, hg', ht', hvar, hd, hr, _⟩ := h
  obtain rfl := Option.some.inj (hg.symm.trans hg')
  obtain rfl := Option.some.inj (hty.symm.trans ht')
  refine ⟨?_, q, hr⟩
  unfold Go.Lib.TabIs
  rw [hvar, ← Go.Lib.cells_of_tab ht he hce hct hd]
theorem rest_of_vars {P : Program} {W : World} {x : String × DataW Unit} {rest : List (String × DataW Unit)} {ps : List MemPlace} (h : DataW.LaidVars P W (x :: rest) ps) : ∃ q, DataW.LaidVars P W rest q := by
  obtain ⟨n, d⟩ := x
  obtain ⟨_, _, _, _, _, q, _, _, _, _, hr, _⟩ := h
  exact ⟨q, hr⟩
def hexZ : List Int := [48, 49, 50, 51, 52, 53, 54, 55, 56, 57, 97, 98, 99, 100, 101, 102]
theorem pow_data : (Rows.laid_internal_strconv_uint64pow10 : DataW Unit) = Go.Lib.tabData .u64 Go.Lib.pow10Tab := by kernel_rfl
theorem hex_data : (Rows.laid_foyer_digest_hex : DataW Unit) = Go.Lib.tabData .u8 hexZ := by kernel_rfl
theorem hex_vals : (hexZ.map fun z => Value.int .u8 z).toArray = hexTab.toArray := rfl
theorem tabs_of {W : World} (h : laidMetH Tryd.prog Rows.topForksRow.laid W) : Tabs W := by
  rw [MakeChecks.laidMetH_plain _ _ _ (by kernel_rfl)] at h
  obtain ⟨ps, h, _, _⟩ := h
  change DataW.LaidVars Tryd.prog W [("math/bits.deBruijn32tab", Rows.laid_math_bits_deBruijn32tab), ("math/bits.deBruijn64tab", Rows.laid_math_bits_deBruijn64tab), ("internal/strconv.uint64pow10", Rows.laid_internal_strconv_uint64pow10), ("unicode/utf8.acceptRanges", Rows.laid_unicode_utf8_acceptRanges), ("foyer/digest.hex", Rows.laid_foyer_digest_hex), ("unicode/utf8.first", Rows.laid_unicode_utf8_first)] ps at h
  obtain ⟨_, h⟩ := rest_of_vars h
  obtain ⟨_, h⟩ := rest_of_vars h
  rw [pow_data] at h
  obtain ⟨h1, _, h⟩ := tab_of_vars (g := 2) (t := 120) (by kernel_rfl) (by kernel_rfl) Tryd.underlying120 Tryd.underlying83 (by kernel_rfl) (by kernel_rfl) h
  obtain ⟨_, h⟩ := rest_of_vars h
  rw [hex_data] at h
  obtain ⟨h2, _, _⟩ := tab_of_vars (g := 0) (t := 105) (by kernel_rfl) (by kernel_rfl) Tryd.underlying105 Tryd.underlying5 (by kernel_rfl) (by kernel_rfl) h
  refine ⟨?_, h1⟩
  unfold Go.Lib.TabIs World.var? at h2
  rw [show Tryd.prog.globalNamed "foyer/digest.hex" = some 0 by kernel_rfl, hex_vals] at h2
  simp only [Option.bind_some] at h2
  split at h2
  · rename_i cs T0 fz hb
    exact ⟨T0, fz, by rw [hb, Option.some.inj h2]⟩
  · cases h2
set_option maxRecDepth 100000 in
theorem contract (H : Type) (enc : TypeId × Value → H) (W : World) (base : Nat) (args : Array Value) (ds gs : List (DataW H)) (before : List MemPlace)
    (hval : ∀ (j : Nat) t v, Tryd.f3.params[j]? = some t → args[j]? = some v → Value.okWide Tryd.prog W .any base t v)
    (hW : DataW.Whole enc Tryd.prog Tryd.f3.params.toList Rows.topForksSpec.vars false W args.toList ds gs before) (hT : Tabs W) :
    Calls Tryd.prog 3 args W fun e W' => ∃ v, e = .returned v ∧ Rows.topForksSpec.post enc Tryd.prog Tryd.f3 false true false false W args v W' := by
  have hW' := hW
  obtain ⟨p, q, hA0, hV, rfl, _, _⟩ := hW
  have hA : DataW.TrodAll enc Tryd.prog W 0 (fun _ => true) true Tryd.f3.params.toList args.toList ds p := hA0
  rw [Tryd.params3] at hA hval
  clear hA0
  obtain ⟨v0, vs0, d0, ds0, p0, q0, hargs0, rfl, rfl, h0, r0⟩ := trodAll_cons hA
  obtain ⟨v1, vs1, d1, ds1, p1, q1, hargs1, rfl, rfl, h1, r1⟩ := trodAll_cons r0
  obtain ⟨rfl, rfl, rfl⟩ := trodAll_nil r1
  obtain rfl : args = #[v0, v1] := by cases args; simp_all
  obtain ⟨x, rfl, g0⟩ := arg_st Tryd.underlying24 (readsT W) (hval 0 24 v0 rfl rfl) h0
  obtain ⟨y, rfl, g1⟩ := arg_st Tryd.underlying24 (readsT W) (hval 1 24 v1 rfl rfl) h1
  refine Calls.mono (law_spec x y W g0.1 g1.1 g0.2 g1.2 hT dist) fun e W' ⟨v, he, hv, hx⟩ => ?_
  subst hv
  exact ⟨_, he, law_post hW' rfl laidOut (by kernel_rfl) (by kernel_rfl) Tryd.underlying4 rfl hx⟩
set_option maxRecDepth 100000 in
theorem lifted (os : Os) (started : os.Started) (H : Type) (enc : TypeId × Value → H) :
    ReturnsInHanded {} Tryd.checked os 3 .any (fun w args => (Rows.topForksSpec.pre enc Tryd.prog Tryd.f3 Rows.topForksRow.domain false w args ∧ laidMetH Tryd.prog Rows.topForksRow.laid w) ∧ sizedMet enc Tryd.prog Tryd.f3 (OpenSpec.ofChange Rows.topForksSpec) false w args)
      (Rows.topForksSpec.post enc Tryd.prog Tryd.f3 false true false false) := by
  refine returnsInHanded_of_change_and (C := Tryd.checked) (X := fun w _ => laidMetH Tryd.prog Rows.topForksRow.laid w) (fun _ _ _ hh h => h.of_heap hh) ownLaw started (by kernel_rfl) Tryd.func3
    (ChangeSpec.witness_shaped (enc := enc) (C := Tryd.checked) (os := os) (X := fun w _ => laidMetH Tryd.prog Rows.topForksRow.laid w) false (World.laidAll Tryd.prog os Rows.topForksRow.laid) #[.agg #[.int .i64 0, .int .i64 0, .int .i64 0, .string ⟨#[]⟩, .slice none 0 0], .agg #[.int .i64 0, .int .i64 0, .int .i64 0, .string ⟨#[]⟩, .slice none 0 0]] 8 (World.laidAll_os _ _ _)
      (World.shaped_of_ZipB (by kernel_rfl) (by kernel_rfl)) (by kernel_rfl) (by kernel_rfl) (by kernel_rfl)
      (by rw [MakeChecks.laidMetH_plain _ _ _ (by kernel_rfl)]; exact laidMet_laidAll _ (by kernel_rfl) (by kernel_rfl))) ?_
  intro W base args ds gs before hval hW _ _ hL _
  exact contract H enc W base args ds gs before hval hW (tabs_of hL)
theorem said : Rows.TopForksSaid :=
  OpenClaim.holds_of_wide 3 Tryd.f3 rfl rfl rfl rfl rfl rfl rfl ⟨rfl, rfl, rfl, rfl, rfl⟩ rfl rfl rfl rfl rfl (by kernel_rfl) Tryd.func3 (by kernel_rfl)
    (of_decide_eq_true (by kernel_rfl)) (by unfold Func.isWrapper; first | (rw [if_pos (by decide +kernel)]; kernel_rfl) | (rw [if_neg (by decide +kernel)]; exact ⟨rfl, rfl⟩))
    (fun os started H enc _ => lifted os started H enc)
theorem proved : Rows.TopForksCardSaid :=
  Claim7.holds_tied_plain_at .later [] [.data, .data, .data, .data, .data, .pinned] true (true, "113396c7159f7dbf5bd0bd47b6b0c9433bc90ee19addbb3c49bcf3b6bc50d748") false said (fun _ h => by cases h) (by kernel_rfl) (fun _ h => by cases h) topForks_row_tie rfl ⟨rfl, rfl⟩ (by kernel_rfl) rfl
    (fun f fn hf hfn => by
      obtain rfl : f = 3 := Option.some.inj ((show Tryd.prog.funcNamed "foyer/foyertop.TopForks" = some 3 by kernel_rfl).symm.trans hf) |>.symm
      obtain rfl : fn = Tryd.f3 := (Option.some.inj (Tryd.func3.symm.trans hfn)).symm
      exact ⟨by kernel_rfl, fun j t ht => by
        rw [Tryd.params3] at ht
        have hm : t ∈ [24, 24] := by simpa using Array.mem_of_getElem? ht
        have hall : ([24, 24].all fun u => !Tryd.prog.wantsStandIn u) = true := by kernel_rfl
        exact (show Tryd.prog.wantsStandIn t = false by simpa using List.all_eq_true.1 hall t hm)⟩)
    (by kernel_rfl)
end Go.Proofs.YtngocpdmlijnfaaDoor.topForks
