/-
image.Right by the plain reckoning. No condition.
-/
import Derived.Test.YtecckfhmgnlmnaaImgJ
namespace Go.Proofs.Ytecckfhmgnlmnaa
set_option linter.unusedSimpArgs false

def spContains : Spec := ⟨[], fun xs => match xs with
  | [x, .fn 27 []] => (lOf 5 x).bind fun l => (l.mapM insOf).bind fun c => if c.length ≤ 1000000000 then some (.s (.bool (!(c.all rightB)))) else none
  | _ => none⟩
def cImg6 : Orc := upd cImg5 44 (some spIdx)
theorem cImg6_ok : ∀ g sp, cImg6 g = some sp → Impl Try.prog g sp := orc_upd cImg5_ok idx_impl
theorem cImg6_at : cImg6 44 = some spIdx := rfl
theorem spIdx_mv : spIdx.mv = [] := rfl

theorem contains_impl : Impl Try.prog 29 spContains := by
  refine impl_walk2 mixed cImg6_ok eqT_ok Try.func29 rfl Try.ntmps29 (by kernel_rfl) ?_
  intro xs r h
  unfold spContains at h
  simp only at h
  (try split at h) <;> try (cases (show none = some r from h); done)
  rename_i x
  obtain ⟨l, hl, h3⟩ := Option.bind_eq_some_iff.1 h
  obtain ⟨c, h2, h4⟩ := Option.bind_eq_some_iff.1 h3
  have e := mapM_eq (fun _ _ => insOf_eq) h2
  clear h h3
  subst e
  split at h4
  case isFalse => cases h4
  rename_i hlen
  cases h4
  refine ⟨_, lst_args hl _, by simp, ?_⟩
  have ht : spIdx.fn [.lst false 5 (c.map Ins.v), .fn 27 []] = some (.s (.int .i64 (fidx c 0))) := by
    simp [spIdx, lOf, mapM_of insOf_v, hlen]
  simp only [go_sem, Nat.reduceEqDiff, Nat.reduceLT, Nat.reduceLeDiff, Nat.reduceAdd, Nat.reduceSub, Nat.reduceMul, Nat.reduceBEq, ↓reduceIte, reduceCtorEq, Int.reduceLT, Int.reduceToNat, UInt8.reduceToNat, Int.reduceLE, Int.reduceBEq, Int.reduceBNe, Int.reduceAdd, Int.reduceSub, Int.reduceMul, Int.reduceNeg, cImg6_at, spIdx_mv, ht]
  repeat' (first | (refine AG_of ?_ ?_ <;> intro h <;> simp only [go_sem, Nat.reduceEqDiff, Nat.reduceLT, Nat.reduceLeDiff, Nat.reduceAdd, Nat.reduceSub, Nat.reduceMul, Nat.reduceBEq, ↓reduceIte, reduceCtorEq, Int.reduceLT, Int.reduceToNat, UInt8.reduceToNat, Int.reduceLE, Int.reduceBEq, Int.reduceBNe, Int.reduceAdd, Int.reduceSub, Int.reduceMul, Int.reduceNeg, cImg6_at, spIdx_mv, ht, h]) | (refine AB_of ?_ ?_ <;> intro h <;> simp only [go_sem, Nat.reduceEqDiff, Nat.reduceLT, Nat.reduceLeDiff, Nat.reduceAdd, Nat.reduceSub, Nat.reduceMul, Nat.reduceBEq, ↓reduceIte, reduceCtorEq, Int.reduceLT, Int.reduceToNat, UInt8.reduceToNat, Int.reduceLE, Int.reduceBEq, Int.reduceBNe, Int.reduceAdd, Int.reduceSub, Int.reduceMul, Int.reduceNeg, cImg6_at, spIdx_mv, ht, h]) | (refine A_draw_of [] [] (by kernel_rfl) ?_ <;> simp only [go_sem, Nat.reduceEqDiff, Nat.reduceLT, Nat.reduceLeDiff, Nat.reduceAdd, Nat.reduceSub, Nat.reduceMul, Nat.reduceBEq, ↓reduceIte, reduceCtorEq, Int.reduceLT, Int.reduceToNat, UInt8.reduceToNat, Int.reduceLE, Int.reduceBEq, Int.reduceBNe, Int.reduceAdd, Int.reduceSub, Int.reduceMul, Int.reduceNeg, cImg6_at, spIdx_mv, ht]))
  all_goals (first | refine fin_ret ?_ | refine fin_normal ?_)
  all_goals simp only [resOf, Try.results29, Try.ntmps29, go_sem, Nat.reduceEqDiff, Nat.reduceLT, Nat.reduceLeDiff, Nat.reduceAdd, Nat.reduceSub, Nat.reduceMul, Nat.reduceBEq, ↓reduceIte, reduceCtorEq, Int.reduceLT, Int.reduceToNat, UInt8.reduceToNat, Int.reduceLE, Int.reduceBEq, Int.reduceBNe, Int.reduceAdd, Int.reduceSub, Int.reduceMul, Int.reduceNeg]
  all_goals rw [fidx_all]

def cImg7 : Orc := upd (upd (upd cImg6 29 (some spContains)) 16 (some spTargets)) 23 (some spSizes)
theorem cImg7_ok : ∀ g sp, cImg7 g = some sp → Impl Try.prog g sp := orc_upd (orc_upd (orc_upd cImg6_ok contains_impl) targets_impl) sizes_impl
theorem cImg7_at : cImg7 29 = some spContains ∧ cImg7 16 = some spTargets ∧ cImg7 23 = some spSizes := ⟨rfl, rfl, rfl⟩
theorem spContains_mv : spContains.mv = [] := rfl
theorem spTargets_mv : spTargets.mv = [] := rfl
theorem spSizes_mv : spSizes.mv = [] := rfl

set_option maxHeartbeats 1000000 in
theorem iright_impl : Impl Try.prog 13 spRightP := by
  refine impl_walk2 mixed cImg7_ok eqT_ok Try.func13 rfl Try.ntmps13 (by kernel_rfl) ?_
  intro xs r h
  unfold spRightP at h
  simp only at h
  (try split at h) <;> try (cases (show none = some r from h); done)
  rename_i x
  obtain ⟨p, hp, h3⟩ := Option.bind_eq_some_iff.1 h
  clear h
  cases h3
  refine ⟨_, prg_args hp _, by simp, ?_⟩
  have hs : spSizes.fn [.s (.int .i64 p.code.length), .s (.int .i64 p.size), .s (.int .i64 p.data.length)] = some (.s (.bool (headB p))) := rfl
  by_cases H : headB p = true
  · have H' := H
    simp only [headB, Bool.and_eq_true, decide_eq_true_eq] at H'
    have hc : spContains.fn [.lst false 5 (p.code.map Ins.v), .fn 27 []] = some (.s (.bool (!(p.code.all rightB)))) := by
      simp [spContains, lOf, mapM_of insOf_v]
      omega
    have ht : spTargets.fn [.agg [.lst false 5 (p.code.map Ins.v), .s (.int .i64 p.size), .lst false 1 (p.data.map u8v)]] = some (.s (.int .i64 (targs p))) := by
      have := prgOf_v p
      unfold Prg.v at this
      simp [spTargets, this]
      omega
    simp only [go_sem, Nat.reduceEqDiff, Nat.reduceLT, Nat.reduceLeDiff, Nat.reduceAdd, Nat.reduceSub, Nat.reduceMul, Nat.reduceBEq, ↓reduceIte, reduceCtorEq, Int.reduceLT, Int.reduceToNat, UInt8.reduceToNat, Int.reduceLE, Int.reduceBEq, Int.reduceBNe, Int.reduceAdd, Int.reduceSub, Int.reduceMul, Int.reduceNeg, Prg.v, List.length_map, hs, H, hc, ht, cImg7_at, spContains_mv, spTargets_mv, spSizes_mv]
    repeat' (first | (refine AG_of ?_ ?_ <;> intro h <;> simp only [go_sem, Nat.reduceEqDiff, Nat.reduceLT, Nat.reduceLeDiff, Nat.reduceAdd, Nat.reduceSub, Nat.reduceMul, Nat.reduceBEq, ↓reduceIte, reduceCtorEq, Int.reduceLT, Int.reduceToNat, UInt8.reduceToNat, Int.reduceLE, Int.reduceBEq, Int.reduceBNe, Int.reduceAdd, Int.reduceSub, Int.reduceMul, Int.reduceNeg, Prg.v, List.length_map, hs, H, hc, ht, cImg7_at, spContains_mv, spTargets_mv, spSizes_mv, h]) | (refine AB_of ?_ ?_ <;> intro h <;> simp only [go_sem, Nat.reduceEqDiff, Nat.reduceLT, Nat.reduceLeDiff, Nat.reduceAdd, Nat.reduceSub, Nat.reduceMul, Nat.reduceBEq, ↓reduceIte, reduceCtorEq, Int.reduceLT, Int.reduceToNat, UInt8.reduceToNat, Int.reduceLE, Int.reduceBEq, Int.reduceBNe, Int.reduceAdd, Int.reduceSub, Int.reduceMul, Int.reduceNeg, Prg.v, List.length_map, hs, H, hc, ht, cImg7_at, spContains_mv, spTargets_mv, spSizes_mv, h]) | (refine A_draw_of [] [] (by kernel_rfl) ?_ <;> simp only [go_sem, Nat.reduceEqDiff, Nat.reduceLT, Nat.reduceLeDiff, Nat.reduceAdd, Nat.reduceSub, Nat.reduceMul, Nat.reduceBEq, ↓reduceIte, reduceCtorEq, Int.reduceLT, Int.reduceToNat, UInt8.reduceToNat, Int.reduceLE, Int.reduceBEq, Int.reduceBNe, Int.reduceAdd, Int.reduceSub, Int.reduceMul, Int.reduceNeg, Prg.v, List.length_map, hs, H, hc, ht, cImg7_at, spContains_mv, spTargets_mv, spSizes_mv]))
    all_goals (first | refine fin_ret ?_ | refine fin_normal ?_)
    all_goals simp only [resOf, Try.results13, Try.ntmps13, go_sem, Nat.reduceEqDiff, Nat.reduceLT, Nat.reduceLeDiff, Nat.reduceAdd, Nat.reduceSub, Nat.reduceMul, Nat.reduceBEq, ↓reduceIte, reduceCtorEq, Int.reduceLT, Int.reduceToNat, UInt8.reduceToNat, Int.reduceLE, Int.reduceBEq, Int.reduceBNe, Int.reduceAdd, Int.reduceSub, Int.reduceMul, Int.reduceNeg]
    all_goals
      unfold rightP
      try unfold targs
      rw [H]
      cases ha : p.code.all rightB <;> cases hb : targsB p <;> simp_all
  · have H2 : headB p = false := by simpa using H
    have hr : rightP p = false := by unfold rightP; simp [H2]
    rw [hr]
    simp only [go_sem, Nat.reduceEqDiff, Nat.reduceLT, Nat.reduceLeDiff, Nat.reduceAdd, Nat.reduceSub, Nat.reduceMul, Nat.reduceBEq, ↓reduceIte, reduceCtorEq, Int.reduceLT, Int.reduceToNat, UInt8.reduceToNat, Int.reduceLE, Int.reduceBEq, Int.reduceBNe, Int.reduceAdd, Int.reduceSub, Int.reduceMul, Int.reduceNeg, Prg.v, List.length_map, hs, H2, cImg7_at, spContains_mv, spTargets_mv, spSizes_mv]
    repeat' (first | (refine AG_of ?_ ?_ <;> intro h <;> simp only [go_sem, Nat.reduceEqDiff, Nat.reduceLT, Nat.reduceLeDiff, Nat.reduceAdd, Nat.reduceSub, Nat.reduceMul, Nat.reduceBEq, ↓reduceIte, reduceCtorEq, Int.reduceLT, Int.reduceToNat, UInt8.reduceToNat, Int.reduceLE, Int.reduceBEq, Int.reduceBNe, Int.reduceAdd, Int.reduceSub, Int.reduceMul, Int.reduceNeg, Prg.v, List.length_map, hs, H2, cImg7_at, spContains_mv, spTargets_mv, spSizes_mv, h]) | (refine AB_of ?_ ?_ <;> intro h <;> simp only [go_sem, Nat.reduceEqDiff, Nat.reduceLT, Nat.reduceLeDiff, Nat.reduceAdd, Nat.reduceSub, Nat.reduceMul, Nat.reduceBEq, ↓reduceIte, reduceCtorEq, Int.reduceLT, Int.reduceToNat, UInt8.reduceToNat, Int.reduceLE, Int.reduceBEq, Int.reduceBNe, Int.reduceAdd, Int.reduceSub, Int.reduceMul, Int.reduceNeg, Prg.v, List.length_map, hs, H2, cImg7_at, spContains_mv, spTargets_mv, spSizes_mv, h]) | (refine A_draw_of [] [] (by kernel_rfl) ?_ <;> simp only [go_sem, Nat.reduceEqDiff, Nat.reduceLT, Nat.reduceLeDiff, Nat.reduceAdd, Nat.reduceSub, Nat.reduceMul, Nat.reduceBEq, ↓reduceIte, reduceCtorEq, Int.reduceLT, Int.reduceToNat, UInt8.reduceToNat, Int.reduceLE, Int.reduceBEq, Int.reduceBNe, Int.reduceAdd, Int.reduceSub, Int.reduceMul, Int.reduceNeg, Prg.v, List.length_map, hs, H2, cImg7_at, spContains_mv, spTargets_mv, spSizes_mv]))
    all_goals (first | refine fin_ret ?_ | refine fin_normal ?_)
    all_goals simp only [resOf, Try.results13, Try.ntmps13, go_sem, Nat.reduceEqDiff, Nat.reduceLT, Nat.reduceLeDiff, Nat.reduceAdd, Nat.reduceSub, Nat.reduceMul, Nat.reduceBEq, ↓reduceIte, reduceCtorEq, Int.reduceLT, Int.reduceToNat, UInt8.reduceToNat, Int.reduceLE, Int.reduceBEq, Int.reduceBNe, Int.reduceAdd, Int.reduceSub, Int.reduceMul, Int.reduceNeg]
end Go.Proofs.Ytecckfhmgnlmnaa
