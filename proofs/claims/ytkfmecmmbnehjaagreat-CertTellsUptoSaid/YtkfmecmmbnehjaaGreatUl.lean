/-
How many cells an instruction has on a side, and which kinds there are: the plain law of CertHolds. No condition.
-/
import Derived.Test.YtkfmecmmbnehjaaGreatUh
/-
Each block of a split is balanced: the plain law. No condition.
-/
namespace Go.Proofs.YtkfmecmmbnehjaaGreat
set_option linter.unusedSimpArgs false
set_option linter.unusedVariables false

/-- what stands ahead of the control cell, and it -/
structure Tl (m : List Int) (l pre tail : List Cell) : Prop where
  eq : l = pre ++ tail
  no : ∀ c ∈ pre, ctlB c.kind = false ∧ 0 ≤ idxL c.kind m 0
end Go.Proofs.YtkfmecmmbnehjaaGreat
/-
A block of a split that lacks a cell that joins both sides is balanced no more: the plain law. No condition.
-/
namespace Go.Proofs.YtkfmecmmbnehjaaGreat
set_option linter.unusedSimpArgs false
set_option linter.unusedVariables false

end Go.Proofs.YtkfmecmmbnehjaaGreat
namespace Go.Proofs.YtkfmecmmbnehjaaGreat
set_option linter.unusedSimpArgs false
set_option linter.unusedVariables false

/-- how many cells of one place -/
def cntO (l : List Cell) (x : Int) : Nat := l.countP fun c => c.off == x
theorem cntO_app (a b : List Cell) (x : Int) : cntO (a ++ b) x = cntO a x + cntO b x := List.countP_append
theorem cntO_one (c : Cell) (x : Int) : cntO [c] x = if c.off = x then 1 else 0 := by
  unfold cntO
  by_cases h : c.off = x <;> simp [h]
theorem cntO_le (l : List Cell) (x : Int) : cntO l x ≤ l.length := List.countP_le_length
theorem foldM_cnt (n : Int) : ∀ (l : List Cell) (x : Int), (foldM l n).1 x = (cntO l x : Int) := by
  intro l
  rw [← List.reverse_reverse l]
  generalize l.reverse = r
  induction r with
  | nil => intro x; rfl
  | cons c r ih =>
    intro x
    rw [List.reverse_cons, foldM_snoc, cntO_app, cntO_one]
    show (if x = c.off then (foldM r.reverse n).1 c.off + 1 else (foldM r.reverse n).1 x) = _
    rw [ih, ih]
    by_cases h : x = c.off
    · rw [if_pos h, if_pos h.symm, h]; omega
    · rw [if_neg h, if_neg (fun e => h e.symm)]; omega
end Go.Proofs.YtkfmecmmbnehjaaGreat
