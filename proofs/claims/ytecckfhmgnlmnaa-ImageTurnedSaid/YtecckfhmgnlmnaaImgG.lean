/-
The reference's targets by the plain reckoning. No condition.
-/
import Derived.Test.YtecckfhmgnlmnaaImgF
namespace Go.Proofs.Ytecckfhmgnlmnaa
set_option linter.unusedSimpArgs false

def rT (len : Nat) (n : Int) (i : Ins) : Int :=
  if (form i.op = 6 ∨ form i.op = 7) ∧ -8192 ≤ i.imm ∧ i.imm ≤ 8191 ∧ 0 ≤ n + i.imm ∧ n + i.imm < len then n + i.imm else -1
def spRTarget : Spec := ⟨[], fun xs => match xs with
  | [x, .s (.int .i64 n)] => (prgOf x).bind fun p => if 0 ≤ n ∧ p.code.length ≤ 1000000000 then (p.code[n.toNat]?).bind fun i => some (.s (.int .i64 (rT p.code.length n i))) else none
  | _ => none⟩

set_option maxHeartbeats 1000000 in
theorem rtarget_impl : Impl Try.prog 33 spRTarget := by
  refine impl_walk2 mixed cImg1_ok eqT_ok Try.func33 rfl Try.ntmps33 (by kernel_rfl) ?_
  intro xs r h
  unfold spRTarget at h
  simp only at h
  (try split at h) <;> try (cases (show none = some r from h); done)
  rename_i x n
  obtain ⟨p, hp, h3⟩ := Option.bind_eq_some_iff.1 h
  clear h
  split at h3
  case isFalse => cases h3
  rename_i hc
  obtain ⟨h0, hlen⟩ := hc
  obtain ⟨⟨op, d, a, b, imm⟩, hi, h4⟩ := Option.bind_eq_some_iff.1 h3
  cases h4
  have hn : n.toNat < p.code.length := (List.getElem?_eq_some_iff.1 hi).1
  refine ⟨_, prg_args hp _, by simp, ?_⟩
  clear h3
  have hrT : rT p.code.length n ⟨op, d, a, b, imm⟩ = if (form op = 6 ∨ form op = 7) ∧ -8192 ≤ imm ∧ imm ≤ 8191 ∧ 0 ≤ n + imm ∧ n + imm < p.code.length then n + imm else -1 := rfl
  by_cases H : (form op = 6 ∨ form op = 7) ∧ -8192 ≤ imm ∧ imm ≤ 8191 ∧ 0 ≤ n + imm ∧ n + imm < p.code.length
  · rw [if_pos H] at hrT
    rw [hrT]
    obtain ⟨g1, g2, g3, g4, g5⟩ := H
    have hw : IntKind.i64.wrap (n + imm) = n + imm := w_i64 (by omega) (by omega)
    simp only [go_sem, Nat.reduceEqDiff, Nat.reduceLT, Nat.reduceLeDiff, Nat.reduceAdd, Nat.reduceSub, Nat.reduceMul, Nat.reduceBEq, ↓reduceIte, reduceCtorEq, Int.reduceLT, Int.reduceToNat, UInt8.reduceToNat, Int.reduceLE, Int.reduceBEq, Int.reduceBNe, Int.reduceAdd, Int.reduceSub, Int.reduceMul, Int.reduceNeg, cImg1_at, spForm_mv, spForm_fn, Prg.v, List.getElem?_map, hi, h0, Ins.v, List.length_map, hw]
    repeat' (first | (refine AG_of ?_ ?_ <;> intro h <;> simp only [go_sem, Nat.reduceEqDiff, Nat.reduceLT, Nat.reduceLeDiff, Nat.reduceAdd, Nat.reduceSub, Nat.reduceMul, Nat.reduceBEq, ↓reduceIte, reduceCtorEq, Int.reduceLT, Int.reduceToNat, UInt8.reduceToNat, Int.reduceLE, Int.reduceBEq, Int.reduceBNe, Int.reduceAdd, Int.reduceSub, Int.reduceMul, Int.reduceNeg, cImg1_at, spForm_mv, spForm_fn, Prg.v, List.getElem?_map, hi, h0, Ins.v, List.length_map, hw, h]) | (refine AB_of ?_ ?_ <;> intro h <;> simp only [go_sem, Nat.reduceEqDiff, Nat.reduceLT, Nat.reduceLeDiff, Nat.reduceAdd, Nat.reduceSub, Nat.reduceMul, Nat.reduceBEq, ↓reduceIte, reduceCtorEq, Int.reduceLT, Int.reduceToNat, UInt8.reduceToNat, Int.reduceLE, Int.reduceBEq, Int.reduceBNe, Int.reduceAdd, Int.reduceSub, Int.reduceMul, Int.reduceNeg, cImg1_at, spForm_mv, spForm_fn, Prg.v, List.getElem?_map, hi, h0, Ins.v, List.length_map, hw, h]) | (refine A_draw_of [] [] (by kernel_rfl) ?_ <;> simp only [go_sem, Nat.reduceEqDiff, Nat.reduceLT, Nat.reduceLeDiff, Nat.reduceAdd, Nat.reduceSub, Nat.reduceMul, Nat.reduceBEq, ↓reduceIte, reduceCtorEq, Int.reduceLT, Int.reduceToNat, UInt8.reduceToNat, Int.reduceLE, Int.reduceBEq, Int.reduceBNe, Int.reduceAdd, Int.reduceSub, Int.reduceMul, Int.reduceNeg, cImg1_at, spForm_mv, spForm_fn, Prg.v, List.getElem?_map, hi, h0, Ins.v, List.length_map, hw]))
    all_goals (first | refine fin_ret ?_ | refine fin_normal ?_)
    all_goals simp only [resOf, Try.results33, Try.ntmps33, go_sem, Nat.reduceEqDiff, Nat.reduceLT, Nat.reduceLeDiff, Nat.reduceAdd, Nat.reduceSub, Nat.reduceMul, Nat.reduceBEq, ↓reduceIte, reduceCtorEq, Int.reduceLT, Int.reduceToNat, UInt8.reduceToNat, Int.reduceLE, Int.reduceBEq, Int.reduceBNe, Int.reduceAdd, Int.reduceSub, Int.reduceMul, Int.reduceNeg]
    all_goals (exfalso; simp only [decide_eq_true_eq, decide_eq_false_iff_not, bne_iff_ne, ne_eq, bne_eq_false_iff_eq, Int.not_lt, Int.not_le, Bool.not_true, Bool.not_false] at *; omega)
  · rw [if_neg H] at hrT
    rw [hrT]
    simp only [go_sem, Nat.reduceEqDiff, Nat.reduceLT, Nat.reduceLeDiff, Nat.reduceAdd, Nat.reduceSub, Nat.reduceMul, Nat.reduceBEq, ↓reduceIte, reduceCtorEq, Int.reduceLT, Int.reduceToNat, UInt8.reduceToNat, Int.reduceLE, Int.reduceBEq, Int.reduceBNe, Int.reduceAdd, Int.reduceSub, Int.reduceMul, Int.reduceNeg, cImg1_at, spForm_mv, spForm_fn, Prg.v, List.getElem?_map, hi, h0, Ins.v, List.length_map]
    repeat' (first | (refine AG_of ?_ ?_ <;> intro h <;> simp only [go_sem, Nat.reduceEqDiff, Nat.reduceLT, Nat.reduceLeDiff, Nat.reduceAdd, Nat.reduceSub, Nat.reduceMul, Nat.reduceBEq, ↓reduceIte, reduceCtorEq, Int.reduceLT, Int.reduceToNat, UInt8.reduceToNat, Int.reduceLE, Int.reduceBEq, Int.reduceBNe, Int.reduceAdd, Int.reduceSub, Int.reduceMul, Int.reduceNeg, cImg1_at, spForm_mv, spForm_fn, Prg.v, List.getElem?_map, hi, h0, Ins.v, List.length_map, h]) | (refine AB_of ?_ ?_ <;> intro h <;> simp only [go_sem, Nat.reduceEqDiff, Nat.reduceLT, Nat.reduceLeDiff, Nat.reduceAdd, Nat.reduceSub, Nat.reduceMul, Nat.reduceBEq, ↓reduceIte, reduceCtorEq, Int.reduceLT, Int.reduceToNat, UInt8.reduceToNat, Int.reduceLE, Int.reduceBEq, Int.reduceBNe, Int.reduceAdd, Int.reduceSub, Int.reduceMul, Int.reduceNeg, cImg1_at, spForm_mv, spForm_fn, Prg.v, List.getElem?_map, hi, h0, Ins.v, List.length_map, h]) | (refine A_draw_of [] [] (by kernel_rfl) ?_ <;> simp only [go_sem, Nat.reduceEqDiff, Nat.reduceLT, Nat.reduceLeDiff, Nat.reduceAdd, Nat.reduceSub, Nat.reduceMul, Nat.reduceBEq, ↓reduceIte, reduceCtorEq, Int.reduceLT, Int.reduceToNat, UInt8.reduceToNat, Int.reduceLE, Int.reduceBEq, Int.reduceBNe, Int.reduceAdd, Int.reduceSub, Int.reduceMul, Int.reduceNeg, cImg1_at, spForm_mv, spForm_fn, Prg.v, List.getElem?_map, hi, h0, Ins.v, List.length_map]))
    all_goals (first | refine fin_ret ?_ | refine fin_normal ?_)
    all_goals simp only [resOf, Try.results33, Try.ntmps33, go_sem, Nat.reduceEqDiff, Nat.reduceLT, Nat.reduceLeDiff, Nat.reduceAdd, Nat.reduceSub, Nat.reduceMul, Nat.reduceBEq, ↓reduceIte, reduceCtorEq, Int.reduceLT, Int.reduceToNat, UInt8.reduceToNat, Int.reduceLE, Int.reduceBEq, Int.reduceBNe, Int.reduceAdd, Int.reduceSub, Int.reduceMul, Int.reduceNeg]
    all_goals
      exfalso
      simp only [decide_eq_true_eq, decide_eq_false_iff_not, bne_iff_ne, ne_eq, bne_eq_false_iff_eq, Int.not_lt, Int.not_le, Bool.not_true, Bool.not_false] at *
      have hw : IntKind.i64.wrap (n + imm) = n + imm := w_i64 (by omega) (by omega)
      simp only [hw] at *
      omega
end Go.Proofs.Ytecckfhmgnlmnaa
