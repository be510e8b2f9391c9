/- Plain laws of layer 42: what the statements say. No condition. -/
import Derived.Test.YtnnendajegdnhaaPlainTh
namespace Go.Proofs.Ytnnendajegdnhaa
set_option linter.unusedVariables false
set_option linter.unusedSimpArgs false
open Go.Gw
section
variable {old next : List Pl} {ts : List Ow} {place serial : Int} {n : Nat}
theorem plAt_snoc (old : List Pl) (ps : List Int) (p : Int) : plAt old (ps ++ [p]) = plAt old ps ++ [old.getD p.toNat pl0] := by simp [plAt]
theorem greater (htw : TwOK old next ts n) (hl : (movedL ts).length < 4000) : decide ((rk (plAt old (plcs ts ++ [place])) next : Int) > (rk (plAt old (plcs ts)) next : Int)) = !denyB old next ts place := by
  rw [plAt_snoc, plAt_plcs]
  have hs := rk_snoc (p := old.getD place.toNat pl0) (ps := oldsT old ts) (next := next) (by rw [oldsT_len]; omega) htw.nx
  unfold denyB
  by_cases e : rk (oldsT old ts ++ [old.getD place.toNat pl0]) next = rk (oldsT old ts) next
  · rw [decide_eq_true e, decide_eq_false (by omega)]; rfl
  · rw [decide_eq_false e, decide_eq_true (by omega)]; rfl
theorem plcs_ok (htw : TwOK old next ts n) : ∀ p ∈ plcs ts, 0 ≤ p ∧ p < old.length := fun p hp => by
  obtain ⟨o, ho, rfl⟩ := List.mem_map.1 hp
  exact ⟨(moved_place ho).1, (plOK_pw.1 (err_0.1 htw.err).2.2.2).1 o ho⟩
theorem plcs_len (ts : List Ow) : (plcs ts).length = (movedL ts).length := by simp [plcs]
theorem TwOK.ml (htw : TwOK old next ts n) : (movedL ts).length ≤ n := Nat.le_trans (moved_len ts) htw.len
end
end Go.Proofs.Ytnnendajegdnhaa
