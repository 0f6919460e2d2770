/-
SplitTells by the plain reckoning, and what comes in. No condition.
-/
import Derived.Test.YtkfmecmmbnehjaaGreatTa
import Derived.Test.YtkfmecmmbnehjaaGreatSg
import Derived.Test.YtkfmecmmbnehjaaGreatOd
namespace Go.Proofs.YtkfmecmmbnehjaaGreat
set_option linter.unusedSimpArgs false
set_option linter.unusedVariables false

end Go.Proofs.YtkfmecmmbnehjaaGreat
