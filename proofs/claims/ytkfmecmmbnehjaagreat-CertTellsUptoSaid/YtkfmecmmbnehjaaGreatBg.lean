/-
When the blocks of two splits are the same; the example of chapter 10. No condition.
-/
import Derived.Test.YtkfmecmmbnehjaaGreatBf
import Derived.Test.YtkfmecmmbnehjaaGreatCb
namespace Go.Proofs.YtkfmecmmbnehjaaGreat
set_option linter.unusedSimpArgs false
set_option linter.unusedVariables false

theorem blk4_ext (x y : Blk4) : x = y ↔ (x.from_ = y.from_ ∧ x.to_ = y.to_ ∧ x.next = y.next ∧ x.taken = y.taken) := by
  constructor
  · rintro rfl; simp
  · obtain ⟨a, b, c, d⟩ := x
    obtain ⟨a', b', c', d'⟩ := y
    rintro ⟨h1, h2, h3, h4⟩
    simp only at *
    subst h1; subst h2; subst h3; subst h4
    rfl
instance : DecidableEq Blk4 := fun x y => decidable_of_iff _ (blk4_ext x y).symm
def z16 : List V := List.replicate 16 (.s (.int .i64 0))
end Go.Proofs.YtkfmecmmbnehjaaGreat
