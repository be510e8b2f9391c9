/- Layer 48: what the laws need of every state; the chapter's examples. No program in sight. No condition. -/
import Derived.Test.YtbjknckddoegfaaPlainN
namespace Go.Proofs.Ytbjknckddoegfaa
open Go Go.Gw
set_option linter.unusedSimpArgs false
set_option linter.unusedVariables false
/-- a group after k operations -/
structure Ok (g : Grp) (k : Nat) : Prop where
  n7 : g.n ≤ 7
  ri : ∃ γ, RI g γ
  lim : Lim g k k
  q : g.qs ≤ 24 * k
theorem Ok.fit {g : Grp} {k : Nat} (h : Ok g k) (hk : k ≤ 1000) : Fit g := ⟨h.ri, h.lim.mono (by omega) (by omega), by have := h.q; omega⟩
theorem Ok.start {n : Nat} (h : n ≤ 7) : Ok (Grp.z n) 0 := ⟨by rw [Grp.z_n]; exact h, ⟨_, RI.start n⟩, Lim.start n, by
  have h0 : ∀ m a, sumN m (fun b => qw ((Grp.z n).q a b)) = 0 := fun m a => (sumN_congr (g := fun _ => 0) (fun b _ => rfl)).trans (by rw [sumN_const]; simp)
  have h1 : (Grp.z n).qs = 0 := (sumN_congr (g := fun _ => 0) (fun a _ => h0 _ a)).trans (by rw [sumN_const]; simp)
  rw [h1]; exact Nat.le_refl 0⟩
theorem Ok.act {g : Grp} {k : Nat} (h : Ok g k) (x a b : Nat) (r : ByteArray) : Ok (g.act x a b r) (k + 1) := by
  obtain ⟨γ, R⟩ := h.ri
  obtain ⟨γ', R', _⟩ := R.act x a b r
  refine ⟨by rw [Grp.act_n]; exact h.n7, ⟨γ', R'⟩, ?_, by have := Grp.act_qs h.n7 x a b r; have := h.q; omega⟩
  have := h.lim.act x a b r
  exact this.mono (Nat.le_refl _) (by omega)
theorem Ok.deliver {g : Grp} {k : Nat} (h : Ok g k) (a b : Nat) (lost : Bool) : Ok (g.deliver a b lost).1 (k + 1) := by
  cases lost with
  | false => exact h.act 0 a b ⟨#[]⟩
  | true => exact h.act 1 a b ⟨#[]⟩
theorem Ok.elect {g : Grp} {k : Nat} (h : Ok g k) (a : Nat) : Ok (g.elect a) (k + 1) := h.act 2 a 0 ⟨#[]⟩
theorem Ok.propose {g : Grp} {k : Nat} (h : Ok g k) (r : ByteArray) : Ok (g.propose r) (k + 1) := h.act 3 0 0 r
theorem Ok.crash {g : Grp} {k : Nat} (h : Ok g k) (a : Nat) (b : Bool) : Ok (g.crash a b) (k + 1) := by
  cases b with
  | false => exact h.act 5 a 0 ⟨#[]⟩
  | true => exact h.act 4 a 0 ⟨#[]⟩
/-- one after the other, the examples' operations -/
def actH (g : Grp) : Nat → Grp
  | 0 => g.propose ⟨#[120]⟩
  | 1 => g.elect 0
  | 2 => (g.deliver 0 1 false).1
  | 3 => (g.deliver 1 0 false).1
  | 4 => g.propose ⟨#[97]⟩
  | 5 => (g.deliver 0 1 false).1
  | 6 => (g.deliver 1 0 false).1
  | 7 => (g.deliver 0 1 false).1
  | 8 => (g.deliver 1 0 false).1
  | 9 => g.crash 0 true
  | 10 => g.crash 0 true
  | 11 => g.elect 0
  | 12 => (g.deliver 0 2 true).1
  | 13 => (g.deliver 0 2 true).1
  | 14 => (g.deliver 0 2 true).1
  | 15 => (g.deliver 0 2 true).1
  | 16 => (g.deliver 0 2 true).1
  | 17 => (g.deliver 0 1 true).1
  | 18 => (g.deliver 0 2 true).1
  | 19 => (g.deliver 0 1 true).1
  | 20 => g.elect 2
  | 21 => (g.deliver 2 1 false).1
  | 22 => (g.deliver 1 2 false).1
  | 23 => g.propose ⟨#[98]⟩
  | 24 => g.elect 1
  | _ => g
def hs : Nat → Grp
  | 0 => Grp.z 3
  | k + 1 => actH (hs k) k
theorem okh : ∀ k, Ok (hs k) k
  | 0 => Ok.start (by omega)
  | k + 1 => by
    have h := okh k
    show Ok (actH (hs k) k) (k + 1)
    unfold actH
    split <;> first | exact h.propose _ | exact h.elect _ | exact h.deliver _ _ _ | exact h.crash _ _ | exact ⟨h.n7, h.ri, h.lim.mono (by omega) (by omega), by have := h.q; omega⟩
/-- the second loop's states -/
def h2 : Nat → Grp
  | 0 => hs 25
  | k + 1 => if ((h2 k).deliver 1 2 false).2 = true then ((h2 k).deliver 1 2 false).1 else (((h2 k).deliver 1 2 false).1.deliver 2 1 false).1
def fl2 (k : Nat) : Bool × Bool := (((h2 k).deliver 1 2 false).2, (((h2 k).deliver 1 2 false).1.deliver 2 1 false).2)
theorem okh2 : ∀ k, Ok (h2 k) (25 + 2 * k)
  | 0 => okh 25
  | k + 1 => by
    have h := okh2 k
    show Ok (if ((h2 k).deliver 1 2 false).2 = true then ((h2 k).deliver 1 2 false).1 else (((h2 k).deliver 1 2 false).1.deliver 2 1 false).1) _
    split
    · have h1 := h.deliver 1 2 false
      exact ⟨h1.n7, h1.ri, h1.lim.mono (by omega) (by omega), by have := h1.q; omega⟩
    · exact (h.deliver 1 2 false).deliver 2 1 false
/-- an operation as the laws' argument -/
def OpR.enc (x : OpR) : List Value := [.int .u8 (x.kind : Int), .int .u8 (x.a : Int), .int .u8 (x.b : Int), .string x.txt]
structure OpR.ok (x : OpR) : Prop where
  k : x.kind < 256
  a : x.a < 256
  b : x.b < 256
  s : x.txt.size ≤ 9223372036854775807
def saidZ (g : Grp) (x : OpR) : Int := match g.said x with
  | none => -1
  | some p => (p.1 : Int)
/-- what deliveries keep -/
structure Good (B : Nat) (g : Grp) : Prop where
  n7 : g.n ≤ 7
  ri : ∃ γ, RI g γ
  lim : Lim g 100000 1000000
  pot : g.pot ≤ B
theorem Good.fit {B : Nat} {g : Grp} (h : Good B g) (hB : B ≤ 800000) : Fit g := ⟨h.ri, h.lim, by have := h.pot; unfold Grp.pot at this; omega⟩
theorem Good.deliver {B : Nat} {g : Grp} (h : Good B g) (a b : Nat) : Good B (g.deliver a b false).1 := by
  obtain ⟨γ, R⟩ := h.ri
  obtain ⟨γ', R', _⟩ := R.deliver a b false
  refine ⟨by rw [Grp.deliver_n]; exact h.n7, ⟨γ', R'⟩, h.lim.deliver a b false, ?_⟩
  obtain ⟨h1, h2, _⟩ := Grp.deliver_pot h.n7 a b false
  have := h.pot
  cases hd : (g.deliver a b false).2 with
  | true => have := h1 hd; omega
  | false => rw [h2 hd]; exact h.pot
end Go.Proofs.Ytbjknckddoegfaa
