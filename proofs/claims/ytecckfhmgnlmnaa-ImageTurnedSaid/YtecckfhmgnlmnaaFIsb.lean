/-
isa.Right by the plain reckoning. No condition.
-/
import Derived.Test.YtecckfhmgnlmnaaFIsa
namespace Go.Proofs.Ytecckfhmgnlmnaa
set_option linter.unusedSimpArgs false

set_option maxHeartbeats 1000000 in
theorem right_impl : Impl Try.prog 28 spRight := by
  refine impl_walk mixed cIsa1_ok eqT_ok Try.func28 rfl Try.ntmps28 (by kernel_rfl) ?_
  intro xs r h
  unfold spRight at h
  simp only at h
  (try split at h) <;> try (cases (show none = some r from h); done)
  rename_i op d a b imm
  cases h
  refine ⟨by simp, ?_⟩
  simp only [go_sem, Nat.reduceEqDiff, Nat.reduceLT, Nat.reduceLeDiff, Nat.reduceAdd, Nat.reduceSub, Nat.reduceMul, Nat.reduceBEq, ↓reduceIte, reduceCtorEq, Int.reduceLT, Int.reduceToNat, UInt8.reduceToNat, Int.reduceLE, Int.reduceBEq, Int.reduceBNe, Int.reduceAdd, Int.reduceSub, Int.reduceMul, Int.reduceNeg, cIsa1_at, spForm_mv, spForm_fn, spHasD_mv, spHasD_fn, spHasA_mv, spHasA_fn, spHasB_mv, spHasB_fn, spHasImm_mv, spHasImm_fn, spWithin_mv, spWithin_fn]
  repeat' (first | (refine AG_of ?_ ?_ <;> intro h <;> simp only [go_sem, Nat.reduceEqDiff, Nat.reduceLT, Nat.reduceLeDiff, Nat.reduceAdd, Nat.reduceSub, Nat.reduceMul, Nat.reduceBEq, ↓reduceIte, reduceCtorEq, Int.reduceLT, Int.reduceToNat, UInt8.reduceToNat, Int.reduceLE, Int.reduceBEq, Int.reduceBNe, Int.reduceAdd, Int.reduceSub, Int.reduceMul, Int.reduceNeg, cIsa1_at, spForm_mv, spForm_fn, spHasD_mv, spHasD_fn, spHasA_mv, spHasA_fn, spHasB_mv, spHasB_fn, spHasImm_mv, spHasImm_fn, spWithin_mv, spWithin_fn, h]) | (refine AB_of ?_ ?_ <;> intro h <;> simp only [go_sem, Nat.reduceEqDiff, Nat.reduceLT, Nat.reduceLeDiff, Nat.reduceAdd, Nat.reduceSub, Nat.reduceMul, Nat.reduceBEq, ↓reduceIte, reduceCtorEq, Int.reduceLT, Int.reduceToNat, UInt8.reduceToNat, Int.reduceLE, Int.reduceBEq, Int.reduceBNe, Int.reduceAdd, Int.reduceSub, Int.reduceMul, Int.reduceNeg, cIsa1_at, spForm_mv, spForm_fn, spHasD_mv, spHasD_fn, spHasA_mv, spHasA_fn, spHasB_mv, spHasB_fn, spHasImm_mv, spHasImm_fn, spWithin_mv, spWithin_fn, h]) | (refine A_draw_of [] [] (by kernel_rfl) ?_ <;> simp only [go_sem, Nat.reduceEqDiff, Nat.reduceLT, Nat.reduceLeDiff, Nat.reduceAdd, Nat.reduceSub, Nat.reduceMul, Nat.reduceBEq, ↓reduceIte, reduceCtorEq, Int.reduceLT, Int.reduceToNat, UInt8.reduceToNat, Int.reduceLE, Int.reduceBEq, Int.reduceBNe, Int.reduceAdd, Int.reduceSub, Int.reduceMul, Int.reduceNeg, cIsa1_at, spForm_mv, spForm_fn, spHasD_mv, spHasD_fn, spHasA_mv, spHasA_fn, spHasB_mv, spHasB_fn, spHasImm_mv, spHasImm_fn, spWithin_mv, spWithin_fn]))
  all_goals (first | refine fin_ret ?_ | refine fin_normal ?_)
  all_goals simp only [resOf, Try.results28, Try.ntmps28, go_sem, Nat.reduceEqDiff, Nat.reduceLT, Nat.reduceLeDiff, Nat.reduceAdd, Nat.reduceSub, Nat.reduceMul, Nat.reduceBEq, ↓reduceIte, reduceCtorEq, Int.reduceLT, Int.reduceToNat, UInt8.reduceToNat, Int.reduceLE, Int.reduceBEq, Int.reduceBNe, Int.reduceAdd, Int.reduceSub, Int.reduceMul, Int.reduceNeg]
  all_goals (simp [rightB, shiftB, loB, hiB, *])

end Go.Proofs.Ytecckfhmgnlmnaa
