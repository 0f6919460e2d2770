/-
What comes in at the laws of chapter 12. No condition.
-/
import Derived.Test.YtnhpkdkffpagdaaOd
import Derived.Test.YtnhpkdkffpagdaaEh
namespace Go.Proofs.Ytnhpkdkffpagdaa
set_option linter.unusedSimpArgs false
set_option linter.unusedVariables false

theorem etells_ok {x y : V} {pc off : Int} (m : ∃ i, insOf x = some i ∧ WfI i) (k : ∃ o, ownOf y = some o ∧ ∀ n ∈ o, -9223372036854775808 ≤ n ∧ n < 9223372036854775808) : spETells.fn [x, y, .s (.int .i64 pc), .s (.int .i64 off)] = some (.s (.bool true)) := by
  obtain ⟨o, k1, _⟩ := k
  obtain ⟨⟨op, d, a, b, imm⟩, m1, _⟩ := m
  have := insOf_eq m1
  subst this
  simp only [spETells, Ins.v, k1, Option.bind_some]
theorem epairs_ok {x y : V} {pc off : Int} (m : ∃ i, insOf x = some i ∧ WfI i) (k : ∃ o, ownOf y = some o ∧ ∀ n ∈ o, -9223372036854775808 ≤ n ∧ n < 9223372036854775808) : spEPairs.fn [x, y, .s (.int .i64 pc), .s (.int .i64 off)] = some (.s (.bool true)) := by
  obtain ⟨o, k1, _⟩ := k
  obtain ⟨⟨op, d, a, b, imm⟩, m1, _⟩ := m
  have := insOf_eq m1
  subst this
  simp only [spEPairs, Ins.v, k1, Option.bind_some]
theorem eplaces_ok {x y : V} {pc off pc' off' : Int} (m : ∃ i, insOf x = some i ∧ WfI i) (k : ∃ o, ownOf y = some o ∧ ∀ n ∈ o, -9223372036854775808 ≤ n ∧ n < 9223372036854775808) : spEPlaces.fn [x, y, .s (.int .i64 pc), .s (.int .i64 off), .s (.int .i64 pc'), .s (.int .i64 off')] = some (.s (.bool true)) := by
  obtain ⟨o, k1, _⟩ := k
  obtain ⟨⟨op, d, a, b, imm⟩, m1, _⟩ := m
  have := insOf_eq m1
  subst this
  simp only [spEPlaces, Ins.v, k1, Option.bind_some]
end Go.Proofs.Ytnhpkdkffpagdaa
