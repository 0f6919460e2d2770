/-
The reference's Cut by the plain reckoning. No condition.
-/
import Derived.Test.YtalcmfmhifcaeaaBe
namespace Go.Proofs.Ytalcmfmhifcaeaa
set_option linter.unusedSimpArgs false
set_option linter.unusedVariables false

def rcutI (p : Prg) (s : S) : Prop :=
  s.env 1 = .ptr 1 1 0 ∧ s.st 1 = ⟨1, .box (prgB p)⟩ ∧ s.env 3 = .lst true 1 ((leadL p).map iv) ∧ 
  ∃ k : Nat, s.env 5 = .s (.int .i64 k) ∧ k ≤ (leadL p).length ∧ RowG (s.env 4) 70 (s.st 70) 6 41 ((cutF p k).map Blk4.v)
end Go.Proofs.Ytalcmfmhifcaeaa
