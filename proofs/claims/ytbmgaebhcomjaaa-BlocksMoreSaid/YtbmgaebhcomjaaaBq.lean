/-
What comes in at BlocksMore. No condition.
-/
import Derived.Test.YtbmgaebhcomjaaaBp
import Derived.Test.YtbmgaebhcomjaaaBn
namespace Go.Proofs.Ytbmgaebhcomjaaa
set_option linter.unusedSimpArgs false
set_option linter.unusedVariables false
theorem bmore_ok {x y : V} (h : ∃ p, prgOf x = some p ∧ p.data.all byte = true ∧ (∀ i ∈ p.code, WfI i) ∧ p.code.length ≤ maxLen ∧ p.data.length ≤ maxLen) (k : ∃ p, prgOf y = some p ∧ p.data.all byte = true ∧ (∀ i ∈ p.code, WfI i) ∧ p.code.length ≤ maxLen ∧ p.data.length ≤ maxLen) : spBMore.fn [x, y] = some (.s (.bool true)) := by
  obtain ⟨p, h1, _⟩ := h
  obtain ⟨q, k1, _⟩ := k
  simp only [spBMore, h1, k1, Option.bind_some]

end Go.Proofs.Ytbmgaebhcomjaaa
