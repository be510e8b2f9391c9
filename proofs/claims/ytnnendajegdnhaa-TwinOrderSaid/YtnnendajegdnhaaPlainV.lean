/- Plain laws of layer 41: the cover by rounds. No condition. -/
import Derived.Test.YtnnendajegdnhaaPlainU
namespace Go.Proofs.Ytnnendajegdnhaa
set_option linter.unusedVariables false
set_option linter.unusedSimpArgs false
open Go.Gw
theorem pairP_own {olds next : List Pl} (h1 : olds.length ≤ 4000) (h2 : next.length ≤ 4000) : FromInv (edgesL olds next) next.length olds.length (pairP olds next) := (pairK_inv h1 h2 olds.length (Nat.le_refl _)).1
theorem rsP_done {olds next : List Pl} (h1 : olds.length ≤ 4000) (h2 : next.length ≤ 4000) : RDone (edgesL olds next) (pairP olds next).1 (pairP olds next).2 (rsP olds next) := by
  have h := pairP_own h1 h2
  have := reach2All_done (edges_valid h1 h2) (fun n => (h.wf.own n).2) (got := (pairP olds next).2)
  rw [edges_len] at this
  exact this
def cntG (got : List Int) : Nat → Nat
  | 0 => 0
  | k + 1 => if 0 ≤ atI got k then cntG got k + 1 else cntG got k
theorem cntG_cntM {got : List Int} : ∀ {k : Nat}, (∀ j, j < k → -1 ≤ atI got j) → cntG got k = cntM got k
  | 0, _ => rfl
  | k + 1, h => by
    have ih := cntG_cntM (got := got) (k := k) (fun j hj => h j (by omega))
    have hk := h k (by omega)
    rw [cntM_succ, ← ih]
    conv => lhs; unfold cntG
    by_cases e : 0 ≤ atI got k
    · rw [if_pos e, if_neg (by omega)]
    · rw [if_neg e, if_pos (by omega)]; rfl
theorem sizeN_cntG {got : List Int} (h : ∀ j, j < got.length → -1 ≤ atI got j) : sizeN got = cntG got got.length := (cntG_cntM h).symm
end Go.Proofs.Ytnnendajegdnhaa
