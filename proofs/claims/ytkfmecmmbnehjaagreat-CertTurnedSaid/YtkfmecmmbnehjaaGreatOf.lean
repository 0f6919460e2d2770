/-
The laws of chapter 11: Owners, with, OwnerLeast. No condition.
-/
import Derived.Test.YtkfmecmmbnehjaaGreatOd
import Derived.Test.YtkfmecmmbnehjaaGreatOe
namespace Go.Proofs.YtkfmecmmbnehjaaGreat
set_option linter.unusedSimpArgs false
set_option linter.unusedVariables false

end Go.Proofs.YtkfmecmmbnehjaaGreat
