/-
The reference's instructions by the plain reckoning. No condition.
-/
import Derived.Test.YtecckfhmgnlmnaaImgC
namespace Go.Proofs.Ytecckfhmgnlmnaa
set_option linter.unusedSimpArgs false

theorem rform_impl : Impl Try.prog 32 spForm := by
  refine impl_walk mixed cImg0_ok eqT_ok Try.func32 rfl Try.ntmps32 (by kernel_rfl) ?_
  intro xs r h
  unfold spForm at h
  simp only at h
  (try split at h) <;> try (cases (show none = some r from h); done)
  cases h
  refine ⟨by simp, ?_⟩
  simp only [go_sem, Nat.reduceEqDiff, Nat.reduceLT, Nat.reduceLeDiff, Nat.reduceAdd, Nat.reduceSub, Nat.reduceMul, Nat.reduceBEq, ↓reduceIte, reduceCtorEq, Int.reduceLT, Int.reduceToNat, UInt8.reduceToNat, Int.reduceLE, Int.reduceBEq, Int.reduceBNe, Int.reduceAdd, Int.reduceSub, Int.reduceMul, Int.reduceNeg]
  repeat' (first | (refine AG_of ?_ ?_ <;> intro h <;> simp only [go_sem, Nat.reduceEqDiff, Nat.reduceLT, Nat.reduceLeDiff, Nat.reduceAdd, Nat.reduceSub, Nat.reduceMul, Nat.reduceBEq, ↓reduceIte, reduceCtorEq, Int.reduceLT, Int.reduceToNat, UInt8.reduceToNat, Int.reduceLE, Int.reduceBEq, Int.reduceBNe, Int.reduceAdd, Int.reduceSub, Int.reduceMul, Int.reduceNeg, h]) | (refine AB_of ?_ ?_ <;> intro h <;> simp only [go_sem, Nat.reduceEqDiff, Nat.reduceLT, Nat.reduceLeDiff, Nat.reduceAdd, Nat.reduceSub, Nat.reduceMul, Nat.reduceBEq, ↓reduceIte, reduceCtorEq, Int.reduceLT, Int.reduceToNat, UInt8.reduceToNat, Int.reduceLE, Int.reduceBEq, Int.reduceBNe, Int.reduceAdd, Int.reduceSub, Int.reduceMul, Int.reduceNeg, h]) | (refine A_draw_of [] [] (by kernel_rfl) ?_ <;> simp only [go_sem, Nat.reduceEqDiff, Nat.reduceLT, Nat.reduceLeDiff, Nat.reduceAdd, Nat.reduceSub, Nat.reduceMul, Nat.reduceBEq, ↓reduceIte, reduceCtorEq, Int.reduceLT, Int.reduceToNat, UInt8.reduceToNat, Int.reduceLE, Int.reduceBEq, Int.reduceBNe, Int.reduceAdd, Int.reduceSub, Int.reduceMul, Int.reduceNeg]))
  all_goals (first | refine fin_ret ?_ | refine fin_normal ?_)
  all_goals simp only [resOf, Try.results32, Try.ntmps32, go_sem, Nat.reduceEqDiff, Nat.reduceLT, Nat.reduceLeDiff, Nat.reduceAdd, Nat.reduceSub, Nat.reduceMul, Nat.reduceBEq, ↓reduceIte, reduceCtorEq, Int.reduceLT, Int.reduceToNat, UInt8.reduceToNat, Int.reduceLE, Int.reduceBEq, Int.reduceBNe, Int.reduceAdd, Int.reduceSub, Int.reduceMul, Int.reduceNeg]
  all_goals (unfold form; simp at *; (repeat' split) <;> first | rfl | omega)

def spHas : Spec := ⟨[], fun xs => match xs with
  | [.s (.int .i64 f)] => some (.tup [.s (.bool (hasDB f)), .s (.bool (hasAB f)), .s (.bool (hasBB f)), .s (.bool (hasImmB f))])
  | _ => none⟩
set_option maxHeartbeats 1000000 in
theorem rhas_impl : Impl Try.prog 45 spHas := by
  refine impl_walk mixed cImg0_ok eqT_ok Try.func45 rfl Try.ntmps45 (by kernel_rfl) ?_
  intro xs r h
  unfold spHas at h
  simp only at h
  (try split at h) <;> try (cases (show none = some r from h); done)
  rename_i f
  cases h
  refine ⟨by simp, ?_⟩
  simp only [go_sem, Nat.reduceEqDiff, Nat.reduceLT, Nat.reduceLeDiff, Nat.reduceAdd, Nat.reduceSub, Nat.reduceMul, Nat.reduceBEq, ↓reduceIte, reduceCtorEq, Int.reduceLT, Int.reduceToNat, UInt8.reduceToNat, Int.reduceLE, Int.reduceBEq, Int.reduceBNe, Int.reduceAdd, Int.reduceSub, Int.reduceMul, Int.reduceNeg]
  repeat' (first | (refine AG_of ?_ ?_ <;> intro h <;> simp only [go_sem, Nat.reduceEqDiff, Nat.reduceLT, Nat.reduceLeDiff, Nat.reduceAdd, Nat.reduceSub, Nat.reduceMul, Nat.reduceBEq, ↓reduceIte, reduceCtorEq, Int.reduceLT, Int.reduceToNat, UInt8.reduceToNat, Int.reduceLE, Int.reduceBEq, Int.reduceBNe, Int.reduceAdd, Int.reduceSub, Int.reduceMul, Int.reduceNeg, h]) | (refine AB_of ?_ ?_ <;> intro h <;> simp only [go_sem, Nat.reduceEqDiff, Nat.reduceLT, Nat.reduceLeDiff, Nat.reduceAdd, Nat.reduceSub, Nat.reduceMul, Nat.reduceBEq, ↓reduceIte, reduceCtorEq, Int.reduceLT, Int.reduceToNat, UInt8.reduceToNat, Int.reduceLE, Int.reduceBEq, Int.reduceBNe, Int.reduceAdd, Int.reduceSub, Int.reduceMul, Int.reduceNeg, h]) | (refine A_draw_of [] [] (by kernel_rfl) ?_ <;> simp only [go_sem, Nat.reduceEqDiff, Nat.reduceLT, Nat.reduceLeDiff, Nat.reduceAdd, Nat.reduceSub, Nat.reduceMul, Nat.reduceBEq, ↓reduceIte, reduceCtorEq, Int.reduceLT, Int.reduceToNat, UInt8.reduceToNat, Int.reduceLE, Int.reduceBEq, Int.reduceBNe, Int.reduceAdd, Int.reduceSub, Int.reduceMul, Int.reduceNeg]))
  all_goals (first | refine fin_ret ?_ | refine fin_normal ?_)
  all_goals simp only [resOf, Try.results45, Try.ntmps45, go_sem, Nat.reduceEqDiff, Nat.reduceLT, Nat.reduceLeDiff, Nat.reduceAdd, Nat.reduceSub, Nat.reduceMul, Nat.reduceBEq, ↓reduceIte, reduceCtorEq, Int.reduceLT, Int.reduceToNat, UInt8.reduceToNat, Int.reduceLE, Int.reduceBEq, Int.reduceBNe, Int.reduceAdd, Int.reduceSub, Int.reduceMul, Int.reduceNeg]
  all_goals
    simp only [beq_iff_eq, beq_eq_false_iff_ne, ne_eq] at *
    simp [hasDB, hasAB, hasBB, hasImmB]
    omega

def spReg : Spec := ⟨[], fun xs => match xs with
  | [.s (.int .i64 n), .s (.bool b)] => some (.s (.bool (regB n b)))
  | _ => none⟩
theorem rreg_impl : Impl Try.prog 46 spReg := by
  refine impl_walk mixed cImg0_ok eqT_ok Try.func46 rfl Try.ntmps46 (by kernel_rfl) ?_
  intro xs r h
  unfold spReg at h
  simp only at h
  (try split at h) <;> try (cases (show none = some r from h); done)
  rename_i n b
  cases h
  refine ⟨by simp, ?_⟩
  cases b
  all_goals
  simp only [go_sem, Nat.reduceEqDiff, Nat.reduceLT, Nat.reduceLeDiff, Nat.reduceAdd, Nat.reduceSub, Nat.reduceMul, Nat.reduceBEq, ↓reduceIte, reduceCtorEq, Int.reduceLT, Int.reduceToNat, UInt8.reduceToNat, Int.reduceLE, Int.reduceBEq, Int.reduceBNe, Int.reduceAdd, Int.reduceSub, Int.reduceMul, Int.reduceNeg]
  repeat' (first | (refine AG_of ?_ ?_ <;> intro h <;> simp only [go_sem, Nat.reduceEqDiff, Nat.reduceLT, Nat.reduceLeDiff, Nat.reduceAdd, Nat.reduceSub, Nat.reduceMul, Nat.reduceBEq, ↓reduceIte, reduceCtorEq, Int.reduceLT, Int.reduceToNat, UInt8.reduceToNat, Int.reduceLE, Int.reduceBEq, Int.reduceBNe, Int.reduceAdd, Int.reduceSub, Int.reduceMul, Int.reduceNeg, h]) | (refine AB_of ?_ ?_ <;> intro h <;> simp only [go_sem, Nat.reduceEqDiff, Nat.reduceLT, Nat.reduceLeDiff, Nat.reduceAdd, Nat.reduceSub, Nat.reduceMul, Nat.reduceBEq, ↓reduceIte, reduceCtorEq, Int.reduceLT, Int.reduceToNat, UInt8.reduceToNat, Int.reduceLE, Int.reduceBEq, Int.reduceBNe, Int.reduceAdd, Int.reduceSub, Int.reduceMul, Int.reduceNeg, h]) | (refine A_draw_of [] [] (by kernel_rfl) ?_ <;> simp only [go_sem, Nat.reduceEqDiff, Nat.reduceLT, Nat.reduceLeDiff, Nat.reduceAdd, Nat.reduceSub, Nat.reduceMul, Nat.reduceBEq, ↓reduceIte, reduceCtorEq, Int.reduceLT, Int.reduceToNat, UInt8.reduceToNat, Int.reduceLE, Int.reduceBEq, Int.reduceBNe, Int.reduceAdd, Int.reduceSub, Int.reduceMul, Int.reduceNeg]))
  all_goals (first | refine fin_ret ?_ | refine fin_normal ?_)
  all_goals simp only [resOf, Try.results46, Try.ntmps46, go_sem, Nat.reduceEqDiff, Nat.reduceLT, Nat.reduceLeDiff, Nat.reduceAdd, Nat.reduceSub, Nat.reduceMul, Nat.reduceBEq, ↓reduceIte, reduceCtorEq, Int.reduceLT, Int.reduceToNat, UInt8.reduceToNat, Int.reduceLE, Int.reduceBEq, Int.reduceBNe, Int.reduceAdd, Int.reduceSub, Int.reduceMul, Int.reduceNeg]
  all_goals (simp_all [regB] <;> omega)

end Go.Proofs.Ytecckfhmgnlmnaa
