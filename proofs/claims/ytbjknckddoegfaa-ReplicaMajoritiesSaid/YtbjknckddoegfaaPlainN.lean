/- Layer 48: how the reference's replicas lie in memory. No condition. -/
import Derived.Test.YtbjknckddoegfaaPlainM
namespace Go.Proofs.Ytbjknckddoegfaa
open Go Go.Gw
set_option linter.unusedSimpArgs false
set_option linter.unusedVariables false
structure RV where
  lv : Value
  vv : Value
  vs : List Bool
  aw : Value
  ak : List Int
structure RV.Fits (n : Nat) (x : RV) (p : Peer) : Prop where
  v : p.role = 1 → x.vs.length = n ∧ ∀ k, k < n → x.vs.getD k false = p.votes k
  a : p.role = 2 → x.ak.length = n ∧ ∀ k, k < n → x.ak.getD k 0 = p.acks k
  t : -1 ≤ p.vote
structure RGV where
  p : Nat → RV
  qs : List (Value × List MV)
  mb : List (Value × List MV)
  bag : List (Value × List Ent)
def RGV.row (z : RGV) (n i j : Nat) : Value × List MV := z.qs.getD (i * n + j) (.slice none 0 0, [])
theorem RV.Fits.step {n : Nat} {x : RV} {p : Peer} (h : x.Fits n p) (t : Int) : x.Fits n (p.step t) := by
  unfold Peer.step; split
  · exact ⟨fun h => (by cases h), fun h => (by cases h), Int.le_refl _⟩
  · exact h
def RV.z : RV := ⟨.slice none 0 0, .slice none 0 0, [], .slice none 0 0, []⟩
end Go.Proofs.Ytbjknckddoegfaa
