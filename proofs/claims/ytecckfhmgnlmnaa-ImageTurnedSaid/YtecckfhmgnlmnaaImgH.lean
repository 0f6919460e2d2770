/-
The reference's Targets by the plain reckoning. No condition.
-/
import Derived.Test.YtecckfhmgnlmnaaImgG
namespace Go.Proofs.Ytecckfhmgnlmnaa
set_option linter.unusedSimpArgs false

def spRTargets : Spec := ⟨[], fun xs => match xs with
  | [x] => (prgOf x).bind fun p => if p.code.length ≤ 8000 then some (.s (.int .i64 (targs p))) else none
  | _ => none⟩
def cImg3 : Orc := upd cImg2 33 (some spRTarget)
theorem cImg3_ok : ∀ g sp, cImg3 g = some sp → Impl Try.prog g sp := orc_upd cImg2_ok rtarget_impl
theorem cImg3_at : cImg3 33 = some spRTarget ∧ cImg3 32 = some spForm := ⟨rfl, rfl⟩
theorem spRTarget_mv : spRTarget.mv = [] := rfl

def rtargI (p : Prg) (s : S) : Prop :=
  s.env 1 = .ptr 1 1 0 ∧ s.st 1 = ⟨1, .box [.lst false 5 (p.code.map Ins.v), .s (.int .i64 p.size), .lst false 1 (p.data.map u8v)]⟩ ∧
  ∃ k : Nat, s.env 3 = .s (.int .i64 k) ∧ k ≤ p.code.length ∧ (List.range k).any (badAt p) = false

set_option maxHeartbeats 2000000 in
theorem rtargets_impl : Impl Try.prog 17 spRTargets := by
  refine impl_walk2 mixed cImg3_ok eqT_ok Try.func17 rfl Try.ntmps17 (by kernel_rfl) ?_
  intro xs r h
  unfold spRTargets at h
  simp only at h
  (try split at h) <;> try (cases (show none = some r from h); done)
  rename_i x
  obtain ⟨p, hp, h3⟩ := Option.bind_eq_some_iff.1 h
  clear h
  split at h3
  case isFalse => cases h3
  rename_i hlen
  cases h3
  refine ⟨_, prg_args hp _, by simp, ?_⟩
  simp only [go_sem, Nat.reduceEqDiff, Nat.reduceLT, Nat.reduceLeDiff, Nat.reduceAdd, Nat.reduceSub, Nat.reduceMul, Nat.reduceBEq, ↓reduceIte, reduceCtorEq, Int.reduceLT, Int.reduceToNat, UInt8.reduceToNat, Int.reduceLE, Int.reduceBEq, Int.reduceBNe, Int.reduceAdd, Int.reduceSub, Int.reduceMul, Int.reduceNeg, Prg.v, List.length_map]
  repeat' (first | (refine AG_of ?_ ?_ <;> intro h <;> simp only [go_sem, Nat.reduceEqDiff, Nat.reduceLT, Nat.reduceLeDiff, Nat.reduceAdd, Nat.reduceSub, Nat.reduceMul, Nat.reduceBEq, ↓reduceIte, reduceCtorEq, Int.reduceLT, Int.reduceToNat, UInt8.reduceToNat, Int.reduceLE, Int.reduceBEq, Int.reduceBNe, Int.reduceAdd, Int.reduceSub, Int.reduceMul, Int.reduceNeg, Prg.v, List.length_map, h]) | (refine AB_of ?_ ?_ <;> intro h <;> simp only [go_sem, Nat.reduceEqDiff, Nat.reduceLT, Nat.reduceLeDiff, Nat.reduceAdd, Nat.reduceSub, Nat.reduceMul, Nat.reduceBEq, ↓reduceIte, reduceCtorEq, Int.reduceLT, Int.reduceToNat, UInt8.reduceToNat, Int.reduceLE, Int.reduceBEq, Int.reduceBNe, Int.reduceAdd, Int.reduceSub, Int.reduceMul, Int.reduceNeg, Prg.v, List.length_map, h]) | (refine A_draw_of [] [] (by kernel_rfl) ?_ <;> simp only [go_sem, Nat.reduceEqDiff, Nat.reduceLT, Nat.reduceLeDiff, Nat.reduceAdd, Nat.reduceSub, Nat.reduceMul, Nat.reduceBEq, ↓reduceIte, reduceCtorEq, Int.reduceLT, Int.reduceToNat, UInt8.reduceToNat, Int.reduceLE, Int.reduceBEq, Int.reduceBNe, Int.reduceAdd, Int.reduceSub, Int.reduceMul, Int.reduceNeg, Prg.v, List.length_map]))
  refine A_loop (rtargI p) (fun s => p.code.length - (numOf (s.env 3)).toNat) ?_ ?_
  · refine ⟨by simp [upd], by simp [upd], 0, by simp [upd], by omega, rfl⟩
  intro s hs
  obtain ⟨e1, t1, k, e3, hk, hany⟩ := hs
  rcases Nat.lt_or_ge k p.code.length with hlt | hge
  · obtain ⟨⟨op, d, a, b, imm⟩, q⟩ : ∃ i, p.code[k]? = some i := ⟨p.code[k], List.getElem?_eq_getElem hlt⟩
    have g0 : decide ((k : Int) < p.code.length) = true := by simp; omega
    have z0 := Int.natCast_nonneg k
    have ht : spRTarget.fn [.agg [.lst false 5 (p.code.map Ins.v), .s (.int .i64 p.size), .lst false 1 (p.data.map u8v)], .s (.int .i64 k)] = some (.s (.int .i64 (rT p.code.length k ⟨op, d, a, b, imm⟩))) := by
      have := prgOf_v p
      unfold Prg.v at this
      simp [spRTarget, this, q]
      omega
    have n2 : IntKind.i64.wrap ((k : Int) + 1) = (k + 1 : Nat) := by rw [w_i64 (by omega) (by omega)]; omega
    have hb : badI p.code.length k ⟨op, d, a, b, imm⟩ = ((form op == 6 || form op == 7) && decide (rT p.code.length k ⟨op, d, a, b, imm⟩ < 0)) := by
      unfold badI rT
      simp only
      rw [Bool.eq_iff_iff]
      simp only [Bool.and_eq_true, Bool.or_eq_true, beq_iff_eq, decide_eq_true_eq]
      split <;> omega
    simp only [go_sem, Nat.reduceEqDiff, Nat.reduceLT, Nat.reduceLeDiff, Nat.reduceAdd, Nat.reduceSub, Nat.reduceMul, Nat.reduceBEq, ↓reduceIte, reduceCtorEq, Int.reduceLT, Int.reduceToNat, UInt8.reduceToNat, Int.reduceLE, Int.reduceBEq, Int.reduceBNe, Int.reduceAdd, Int.reduceSub, Int.reduceMul, Int.reduceNeg, e1, t1, e3, q, g0, z0, ht, n2, cImg3_at, spRTarget_mv, spForm_mv, spForm_fn, Int.toNat_natCast, List.getElem?_map, List.length_map, Ins.v]
    repeat' (first | (refine AG_of ?_ ?_ <;> intro h <;> simp only [go_sem, Nat.reduceEqDiff, Nat.reduceLT, Nat.reduceLeDiff, Nat.reduceAdd, Nat.reduceSub, Nat.reduceMul, Nat.reduceBEq, ↓reduceIte, reduceCtorEq, Int.reduceLT, Int.reduceToNat, UInt8.reduceToNat, Int.reduceLE, Int.reduceBEq, Int.reduceBNe, Int.reduceAdd, Int.reduceSub, Int.reduceMul, Int.reduceNeg, e1, t1, e3, q, g0, z0, ht, n2, cImg3_at, spRTarget_mv, spForm_mv, spForm_fn, Int.toNat_natCast, List.getElem?_map, List.length_map, Ins.v, h]) | (refine AB_of ?_ ?_ <;> intro h <;> simp only [go_sem, Nat.reduceEqDiff, Nat.reduceLT, Nat.reduceLeDiff, Nat.reduceAdd, Nat.reduceSub, Nat.reduceMul, Nat.reduceBEq, ↓reduceIte, reduceCtorEq, Int.reduceLT, Int.reduceToNat, UInt8.reduceToNat, Int.reduceLE, Int.reduceBEq, Int.reduceBNe, Int.reduceAdd, Int.reduceSub, Int.reduceMul, Int.reduceNeg, e1, t1, e3, q, g0, z0, ht, n2, cImg3_at, spRTarget_mv, spForm_mv, spForm_fn, Int.toNat_natCast, List.getElem?_map, List.length_map, Ins.v, h]) | (refine A_draw_of [] [] (by kernel_rfl) ?_ <;> simp only [go_sem, Nat.reduceEqDiff, Nat.reduceLT, Nat.reduceLeDiff, Nat.reduceAdd, Nat.reduceSub, Nat.reduceMul, Nat.reduceBEq, ↓reduceIte, reduceCtorEq, Int.reduceLT, Int.reduceToNat, UInt8.reduceToNat, Int.reduceLE, Int.reduceBEq, Int.reduceBNe, Int.reduceAdd, Int.reduceSub, Int.reduceMul, Int.reduceNeg, e1, t1, e3, q, g0, z0, ht, n2, cImg3_at, spRTarget_mv, spForm_mv, spForm_fn, Int.toNat_natCast, List.getElem?_map, List.length_map, Ins.v]))
    all_goals first
      | (refine ⟨⟨by simp [upd, e1], by simp [upd, t1], k + 1, by simp [upd], by omega, any_succ q ?_ hany⟩, by simp [upd, numOf, e3]; omega⟩
         rw [hb]; simp_all; done)
      | (rw [targs_bad q (by rw [hb]; simp_all; done)]
         refine fin_ret ?_
         simp only [resOf, Try.results17, Try.ntmps17, go_sem, Nat.reduceEqDiff, Nat.reduceLT, Nat.reduceLeDiff, Nat.reduceAdd, Nat.reduceSub, Nat.reduceMul, Nat.reduceBEq, ↓reduceIte, reduceCtorEq, Int.reduceLT, Int.reduceToNat, UInt8.reduceToNat, Int.reduceLE, Int.reduceBEq, Int.reduceBNe, Int.reduceAdd, Int.reduceSub, Int.reduceMul, Int.reduceNeg])
  · have hkl : k = p.code.length := by omega
    have g0 : decide ((k : Int) < p.code.length) = false := by simp; omega
    have h0 : targs p = 0 := by unfold targs targsB; rw [← hkl, hany]; rfl
    rw [h0]
    simp only [go_sem, Nat.reduceEqDiff, Nat.reduceLT, Nat.reduceLeDiff, Nat.reduceAdd, Nat.reduceSub, Nat.reduceMul, Nat.reduceBEq, ↓reduceIte, reduceCtorEq, Int.reduceLT, Int.reduceToNat, UInt8.reduceToNat, Int.reduceLE, Int.reduceBEq, Int.reduceBNe, Int.reduceAdd, Int.reduceSub, Int.reduceMul, Int.reduceNeg, e1, t1, e3, g0, List.length_map]
    repeat' (first | (refine AG_of ?_ ?_ <;> intro h <;> simp only [go_sem, Nat.reduceEqDiff, Nat.reduceLT, Nat.reduceLeDiff, Nat.reduceAdd, Nat.reduceSub, Nat.reduceMul, Nat.reduceBEq, ↓reduceIte, reduceCtorEq, Int.reduceLT, Int.reduceToNat, UInt8.reduceToNat, Int.reduceLE, Int.reduceBEq, Int.reduceBNe, Int.reduceAdd, Int.reduceSub, Int.reduceMul, Int.reduceNeg, e1, t1, e3, g0, List.length_map, h]) | (refine AB_of ?_ ?_ <;> intro h <;> simp only [go_sem, Nat.reduceEqDiff, Nat.reduceLT, Nat.reduceLeDiff, Nat.reduceAdd, Nat.reduceSub, Nat.reduceMul, Nat.reduceBEq, ↓reduceIte, reduceCtorEq, Int.reduceLT, Int.reduceToNat, UInt8.reduceToNat, Int.reduceLE, Int.reduceBEq, Int.reduceBNe, Int.reduceAdd, Int.reduceSub, Int.reduceMul, Int.reduceNeg, e1, t1, e3, g0, List.length_map, h]) | (refine A_draw_of [] [] (by kernel_rfl) ?_ <;> simp only [go_sem, Nat.reduceEqDiff, Nat.reduceLT, Nat.reduceLeDiff, Nat.reduceAdd, Nat.reduceSub, Nat.reduceMul, Nat.reduceBEq, ↓reduceIte, reduceCtorEq, Int.reduceLT, Int.reduceToNat, UInt8.reduceToNat, Int.reduceLE, Int.reduceBEq, Int.reduceBNe, Int.reduceAdd, Int.reduceSub, Int.reduceMul, Int.reduceNeg, e1, t1, e3, g0, List.length_map]))
    all_goals (first | refine fin_ret ?_ | refine fin_normal ?_)
    all_goals simp only [resOf, Try.results17, Try.ntmps17, go_sem, Nat.reduceEqDiff, Nat.reduceLT, Nat.reduceLeDiff, Nat.reduceAdd, Nat.reduceSub, Nat.reduceMul, Nat.reduceBEq, ↓reduceIte, reduceCtorEq, Int.reduceLT, Int.reduceToNat, UInt8.reduceToNat, Int.reduceLE, Int.reduceBEq, Int.reduceBNe, Int.reduceAdd, Int.reduceSub, Int.reduceMul, Int.reduceNeg]
end Go.Proofs.Ytecckfhmgnlmnaa
