/-
The law IsaForms in memory. No condition.
-/
import Derived.Test.YtegalldldcaocaaFForms
import Derived.Test.YtegalldldcaocaaAbJ
namespace Go.Proofs.Ytegalldldcaocaa
open Go.RowKit
theorem isaForms_any (op field n : Int) (w : World) : Calls Try.prog 6 #[.int .i64 op, .int .i64 field, .int .i64 n] w fun e w' => e = .returned (.bool true) ∧ Below w.heap.size w w' :=
  impl_true isaForms_impl (xs := [.s (.int .i64 op), .s (.int .i64 field), .s (.int .i64 n)]) rfl (.s (.s (.s .nil)))
end Go.Proofs.Ytegalldldcaocaa
