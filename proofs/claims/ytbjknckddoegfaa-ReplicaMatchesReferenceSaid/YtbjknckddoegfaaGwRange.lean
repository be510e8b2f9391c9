/- Ranges over functions: the statement, a round, a call of yield, the way out of a function that holds such loops. No condition. -/
import Derived.Test.YtbjknckddoegfaaGwMap
import Derived.RangeFuncIn
import Derived.RangeFuncRecord
namespace Go.Gw
set_option linter.unusedVariables false
set_option linter.unusedSimpArgs false
/-- the record of a loop that is ready for a round -/
structure RecOK (R : Loop) (tm : Array Value) (ps : Array Tmp) (as bo : Code) : Prop where
  state : R.state = .ready
  pending : R.pending = none
  tmps : R.tmps = tm
  params : R.params = ps
  assign : R.assign = as
  body : R.body = bo
theorem RecOK.same {R : Loop} {tm : Array Value} {ps : Array Tmp} {as bo : Code} (h : RecOK R tm ps as bo) : ({ R with state := .ready, pending := none } : Loop) = R := by
  obtain ⟨h1, h2, _, _, _, _⟩ := h
  cases R; simp only at h1 h2; subst h1; subst h2; rfl
section
variable {r : Option Nat} {P : Program} {o : Oper} {n : Sz} {fl flU : Slots} {a : Act} {w w0 : World} {v : Value} {M : Nat → Prop} {l : List Atom} {ops : Array Oper} {d : Nat} {K : Act → World → Prop} {Q : Exit → Act → World → Prop}
/-- a call of yield runs a round, which hands back v in w' -/
def YieldRet (P : Program) (lb : Nat) (args : Array Value) (w : World) (R : Value → World → Prop) : Prop :=
  ∃ f tmps as bo, (Instr.yield lb args).run P w = .ok (.round lb f tmps as bo) w ∧ RoundIn Fence.wide 0 P lb f tmps as bo w (fun e w' => ∃ v, e = .returned v ∧ R v w')
theorem YieldRet.mono {lb : Nat} {args : Array Value} {R R' : Value → World → Prop} (h : YieldRet P lb args w R) (hr : ∀ v w', R v w' → R' v w') : YieldRet P lb args w R' := by
  obtain ⟨f, tm, as, bo, h1, h2⟩ := h
  exact ⟨f, tm, as, bo, h1, RoundIn.mono h2 fun e w'' ⟨v, he, hv⟩ => ⟨v, he, hr _ _ hv⟩⟩
end
end Go.Gw
