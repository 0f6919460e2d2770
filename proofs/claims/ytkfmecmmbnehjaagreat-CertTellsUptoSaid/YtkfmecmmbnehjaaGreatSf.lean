/-
The example of chapter 13, and SplitAll. No condition.
-/
import Derived.Test.YtkfmecmmbnehjaaGreatSe
import Derived.Test.YtkfmecmmbnehjaaGreatOf
namespace Go.Proofs.YtkfmecmmbnehjaaGreat
set_option linter.unusedSimpArgs false
set_option linter.unusedVariables false

def halted : V := .agg [.s (.int .i64 12), .s (.int .i64 0), .s (.int .i64 0), .s (.int .i64 0), .s (.int .i64 0), .s (.int .i64 0), .s (.int .i64 0), .s (.int .i64 0), .s (.int .i64 0)]
def aliveSV (k : Bool) : V := .agg [.lst k 6 [.agg [.s (.int .i64 0), .s (.int .i64 1), .s (.int .i64 (-1)), .s (.int .i64 (-1)), .lst false 9 [halted], .lst false 9 [halted]]], .s (.int .i64 0), .s (.int .i64 2), .s (.int .i64 2), .s (.int .i64 2), .s (.int .i64 2), .s (.int .i64 2), .s (.int .i64 2), .s (.int .i64 2), .s (.int .i64 2), .s (.int .i64 2), .s (.int .i64 2), .s (.int .i64 2), .s (.int .i64 2), .s (.int .i64 2), .s (.int .i64 2), .s (.int .i64 2)]
theorem alive_split : spSpO.fn [.agg [.lst false 5 [.agg [.s (.int .i64 41), .s (.int .i64 0), .s (.int .i64 0), .s (.int .i64 0), .s (.int .i64 0)]], .s (.int .i64 0), .s (.slice none 0 0)]] = some (.tup [aliveSV true, .s (.int .i64 0)]) := by kernel_rfl
theorem swV_ok {p : Prg} {o : List Int} (h : closedB p o = true) : swV p o = .tup [.agg (.lst true 6 ((splitL p o).map SB.v) :: o.map iv), .s (.int .i64 0)] := by unfold swV; rw [if_pos h]
theorem swV_no {p : Prg} {o : List Int} (h : closedB p o = false) : swV p o = .tup [noS, .s (.int .i64 1)] := by unfold swV; rw [if_neg (by simp [h])]
theorem cutL_pos {p : Prg} (h : rightP p = true) : 0 < (cutL p).length ∧ (cutL p).length ≤ 2000 := by
  have h1 := leadL_ne h
  have h2 := leadL_len p
  have h3 : (cutL p).length = (leadL p).length := by simp [cutL, cutF]
  have h4 := right_len h
  have h5 : 0 < (leadL p).length := List.length_pos_iff.2 h1
  omega

end Go.Proofs.YtkfmecmmbnehjaaGreat
