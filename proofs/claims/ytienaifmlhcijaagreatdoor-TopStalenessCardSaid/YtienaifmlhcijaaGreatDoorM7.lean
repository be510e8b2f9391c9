/- Parts of the proof, joined: the program logic, the plain theory, the walks, as they are named inside. No condition. -/
import Derived.Test.YtienaifmlhcijaaGreatDoorRows
import Derived.Test.YtienaifmlhcijaaGreatDoorCards
import Derived.Test.YtienaifmlhcijaaGreatDoorTie
import Derived.Test.YtienaifmlhcijaaGreatDoorM1
import Derived.WalkKit
import Derived.ProofKit
import Derived.OpenShut
import Derived.LaidMore
import Derived.Lay
import Derived.SevenTiedAt
import Derived.Stop.Joined
import Derived.Test.YtienaifmlhcijaaGreatDoorM6
section
namespace Go.Proofs.YtienaifmlhcijaaGreatDoor
open Go.ChangeShapes Go.WideShapes Go.ChangeAt Go.RowKit Go.Gw
set_option linter.unusedVariables false
set_option linter.unusedSimpArgs false
theorem ownLaw : ownKnob Tryz.prog.godebug = none := by kernel_rfl
theorem laidOut : laidOutB Tryz.prog = true := by kernel_rfl
theorem u8b {n : Int} (h : (Lit.int .u8 n).wf = true) : 0 ≤ n ∧ n ≤ 255 := by
  have h : IntKind.u8.min ≤ n ∧ n ≤ IntKind.u8.max := by simpa [Lit.wf] using h
  exact ⟨h.1, h.2⟩
theorem readsU : ReadsAs Tryz.prog 5 (fun n : Int => [.int .u8 n]) (fun n => (Lit.int .u8 n).wf = true) := readsInt Tryz.underlying5
theorem readsE (W : World) : ReadsAt Tryz.prog W 50 encE (fun e => e.kind < 256 ∧ e.gate < 256 ∧ e.title < 256 ∧ e.after < 256) :=
  ReadsAt.mono (reads_struct (ts := [5, 5, 5, 5]) Tryz.underlying50 (by kernel_rfl) (readsL_cons readsU.at_ (readsL_cons readsU.at_ (readsL_cons readsU.at_ (readsL_cons readsU.at_ readsL_nil)))))
    (fun y => ⟨y.1.toNat, y.2.1.toNat, y.2.2.1.toNat, y.2.2.2.1.toNat⟩)
    (fun y h => by
      have h1 := u8b h.1
      have h2 := u8b h.2.1
      have h3 := u8b h.2.2.1
      have h4 := u8b h.2.2.2.1
      show [Value.int .u8 y.1, .int .u8 y.2.1, .int .u8 y.2.2.1, .int .u8 y.2.2.2.1] = [Value.int .u8 (y.1.toNat : Int), .int .u8 (y.2.1.toNat : Int), .int .u8 (y.2.2.1.toNat : Int), .int .u8 (y.2.2.2.1.toNat : Int)]
      rw [Int.toNat_of_nonneg h1.1, Int.toNat_of_nonneg h2.1, Int.toNat_of_nonneg h3.1, Int.toNat_of_nonneg h4.1])
    (fun y h => by
      have h1 := u8b h.1
      have h2 := u8b h.2.1
      have h3 := u8b h.2.2.1
      have h4 := u8b h.2.2.2.1
      dsimp only
      omega)
/-- a table that stands somewhere on the list -/
theorem tab_of_vars {P : Program} {W : World} {name : String} {k : IntKind} {zs : List Int} {rest : List (String × DataW Unit)} {ps : List MemPlace} {g : Nat} {t e : TypeId} {n : Nat}
    (hg : P.globalNamed name = some g) (hty : (P.globals[g]?).map (·.type) = some t) (ht : P.underlying t = some (.array n e)) (he : P.underlying e = some (.int k)) (hce : P.cellsOf e = 1) (hct : P.cellsOf t = n)
    (h : DataW.LaidVars P W ((name, Go.Lib.tabData k zs) :: rest) ps) : Go.Lib.TabIs P W name k zs ∧ ∃ q, DataW.LaidVars P W rest q := by
  obtain ⟨g', t', cs, fuel, p, q, hg', ht', hvar, hd, hr, _⟩ := h
  obtain rfl := Option.some.inj (hg.symm.trans hg')
  obtain rfl := Option.some.inj (hty.symm.trans ht')
  refine ⟨?_, q, hr⟩
  unfold Go.Lib.TabIs
  rw [hvar, ← Go.Lib.cells_of_tab ht he hce hct hd]
theorem rest_of_vars {P : Program} {W : World} {x : String × DataW Unit} {rest : List (String × DataW Unit)} {ps : List MemPlace} (h : DataW.LaidVars P W (x :: rest) ps) : ∃ q, DataW.LaidVars P W rest q := by
  obtain ⟨n, d⟩ := x
  obtain ⟨_, _, _, _, _, q, _, _, _, _, hr, _⟩ := h
  exact ⟨q, hr⟩
/-- a table's block -/
theorem block_of_tab {P : Program} {W : World} {name : String} {k : IntKind} {zs : List Int} {g : Nat} (hg : P.globalNamed name = some g) (h : Go.Lib.TabIs P W name k zs) : ∃ T0 fz, W.heap[g]? = some (.cells (zs.map fun z => Value.int k z).toArray T0 fz) := by
  unfold Go.Lib.TabIs World.var? at h
  rw [hg] at h
  simp only [Option.bind_some] at h
  split at h
  · rename_i cs T0 fz hb
    exact ⟨T0, fz, by rw [hb, Option.some.inj h]⟩
  · cases h
def hexZ : List Int := [48, 49, 50, 51, 52, 53, 54, 55, 56, 57, 97, 98, 99, 100, 101, 102]
def dbI : List Int := dbZ.map fun n : Nat => (n : Int)
theorem pow_data : (Rows.laid_internal_strconv_uint64pow10 : DataW Unit) = Go.Lib.tabData .u64 Go.Lib.pow10Tab := by kernel_rfl
theorem hex_data : (Rows.laid_foyer_digest_hex : DataW Unit) = Go.Lib.tabData .u8 hexZ := by kernel_rfl
theorem db_data : (Rows.laid_math_bits_deBruijn64tab : DataW Unit) = Go.Lib.tabData .u8 dbI := by kernel_rfl
theorem hex_vals : (hexZ.map fun z => Value.int .u8 z).toArray = hexTab.toArray := rfl
theorem db_vals : (dbI.map fun z => Value.int .u8 z).toArray = dbV.toArray := by unfold dbI dbV; rw [List.map_map]; rfl
theorem tabs_of {W : World} (h : laidMetH Tryz.prog Rows.topStalenessRow.laid W) : Tabs W ∧ TabBs W := by
  rw [MakeChecks.laidMetH_plain _ _ _ (by kernel_rfl)] at h
  obtain ⟨ps, h, _, _⟩ := h
  change DataW.LaidVars Tryz.prog W [("math/bits.deBruijn32tab", Rows.laid_math_bits_deBruijn32tab), ("math/bits.deBruijn64tab", Rows.laid_math_bits_deBruijn64tab), ("internal/strconv.uint64pow10", Rows.laid_internal_strconv_uint64pow10), ("unicode/utf8.acceptRanges", Rows.laid_unicode_utf8_acceptRanges), ("strconv.ErrRange", Rows.laid_strconv_ErrRange), ("strconv.ErrSyntax", Rows.laid_strconv_ErrSyntax), ("foyer/digest.hex", Rows.laid_foyer_digest_hex), ("unicode/utf8.first", Rows.laid_unicode_utf8_first)] ps at h
  obtain ⟨_, h⟩ := rest_of_vars h
  rw [db_data] at h
  obtain ⟨h0, _, h⟩ := tab_of_vars (g := 6) (t := 256) (by kernel_rfl) (by kernel_rfl) Tryz.underlying256 Tryz.underlying5 (by kernel_rfl) (by kernel_rfl) h
  rw [pow_data] at h
  obtain ⟨h1, _, h⟩ := tab_of_vars (g := 1) (t := 239) (by kernel_rfl) (by kernel_rfl) Tryz.underlying239 Tryz.underlying97 (by kernel_rfl) (by kernel_rfl) h
  obtain ⟨_, h⟩ := rest_of_vars h
  obtain ⟨_, h⟩ := rest_of_vars h
  obtain ⟨_, h⟩ := rest_of_vars h
  rw [hex_data] at h
  obtain ⟨h2, _, _⟩ := tab_of_vars (g := 0) (t := 207) (by kernel_rfl) (by kernel_rfl) Tryz.underlying207 Tryz.underlying5 (by kernel_rfl) (by kernel_rfl) h
  have b0 := block_of_tab (show Tryz.prog.globalNamed "math/bits.deBruijn64tab" = some 6 by kernel_rfl) h0
  have b2 := block_of_tab (show Tryz.prog.globalNamed "foyer/digest.hex" = some 0 by kernel_rfl) h2
  rw [db_vals] at b0
  rw [hex_vals] at b2
  exact ⟨⟨b2, h1⟩, b0⟩
end Go.Proofs.YtienaifmlhcijaaGreatDoor
end
