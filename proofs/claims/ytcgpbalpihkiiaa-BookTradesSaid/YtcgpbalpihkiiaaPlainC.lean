/- Layer 33: the book and the reference's. No program in sight. No condition. -/
import Derived.Test.YtcgpbalpihkiiaaPlainB
namespace Go.Proofs.Ytcgpbalpihkiiaa
open Go Go.Gw
set_option linter.unusedSimpArgs false
set_option linter.unusedVariables false
theorem mat_own {o x : Ord} (h : x.sell = o.sell) : matR o x = false := by simp [matR, matchB, h]
theorem mat_other {o x : Ord} (h : x.sell = !o.sell) : matR o x = agreeB o x := by
  unfold matR matchB agreeB
  cases hs : o.sell <;> rw [hs] at h <;> by_cases e : x.person = o.person <;> simp [h, e]
end Go.Proofs.Ytcgpbalpihkiiaa
