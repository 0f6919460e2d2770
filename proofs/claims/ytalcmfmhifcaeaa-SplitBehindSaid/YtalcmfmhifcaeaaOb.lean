/-
The reference's Owner by the plain reckoning: the same as owner.Of. No condition.
-/
import Derived.Test.YtalcmfmhifcaeaaOa
namespace Go.Proofs.Ytalcmfmhifcaeaa
set_option linter.unusedSimpArgs false
set_option linter.unusedVariables false

def rwI2 (p : Prg) (s : S) : Prop := ofB p s ∧ ∃ n : Nat, s.env 5 = .s (.int .i64 n) ∧ n ≤ 17 ∧ s.st 3 = ⟨1, .box ((iterO p.code n).map iv)⟩
def rwI3 (p : Prg) (n : Nat) (s : S) : Prop := ofB p s ∧ s.env 5 = .s (.int .i64 n) ∧ ∃ k : Nat, s.env 6 = .s (.int .i64 k) ∧ k ≤ p.code.length ∧ s.st 3 = ⟨1, .box ((passO (p.code.take k) (iterO p.code n)).map iv)⟩
end Go.Proofs.Ytalcmfmhifcaeaa
