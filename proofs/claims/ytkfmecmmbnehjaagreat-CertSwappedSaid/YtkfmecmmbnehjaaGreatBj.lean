/-
What blocks are: the plain law. No program in sight.
-/
import Derived.Test.YtkfmecmmbnehjaaGreatBg
namespace Go.Proofs.YtkfmecmmbnehjaaGreat
set_option linter.unusedSimpArgs false
set_option linter.unusedVariables false

theorem cut_at {p : Prg} {i : Nat} (h : i < (leadL p).length) : (cutL p)[i]? = some (blkAt p (leadL p) i) := by
  simp [cutL, cutF, h]
theorem blk_from {p : Prg} {i : Nat} {a : Int} (ha : (leadL p)[i]? = some a) : (blkAt p (leadL p) i).from_ = a := by
  unfold blkAt
  simp only [List.getD_eq_getElem?_getD, ha, Option.getD_some]
theorem blk_to (p : Prg) (i : Nat) : (blkAt p (leadL p) i).to_ = toAt p (leadL p) i := rfl

end Go.Proofs.YtkfmecmmbnehjaaGreat
