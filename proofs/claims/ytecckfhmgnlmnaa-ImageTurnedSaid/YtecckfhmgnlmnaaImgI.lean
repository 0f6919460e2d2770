/-
The reference's RightProgram by the plain reckoning. No condition.
-/
import Derived.Test.YtecckfhmgnlmnaaImgH
namespace Go.Proofs.Ytecckfhmgnlmnaa
set_option linter.unusedSimpArgs false

def headB (p : Prg) : Bool := decide (1 ≤ (p.code.length : Int)) && decide ((p.code.length : Int) ≤ 2000) && decide (0 ≤ p.size) && decide (p.size ≤ 65536) && decide ((p.data.length : Int) ≤ p.size)
def rightP (p : Prg) : Bool := headB p && p.code.all rightB && !targsB p
def spRightP : Spec := ⟨[], fun xs => match xs with
  | [x] => (prgOf x).bind fun p => some (.s (.bool (rightP p)))
  | _ => none⟩
def cImg4 : Orc := upd (upd cImg3 17 (some spRTargets)) 30 (some spRight)
theorem cImg4_ok : ∀ g sp, cImg4 g = some sp → Impl Try.prog g sp := orc_upd (orc_upd cImg3_ok rtargets_impl) rright_impl
theorem cImg4_at : cImg4 17 = some spRTargets ∧ cImg4 30 = some spRight := ⟨rfl, rfl⟩
theorem spRTargets_mv : spRTargets.mv = [] := rfl

def rpI (p : Prg) (s : S) : Prop :=
  s.env 1 = .ptr 1 1 0 ∧ s.st 1 = ⟨1, .box [.lst false 5 (p.code.map Ins.v), .s (.int .i64 p.size), .lst false 1 (p.data.map u8v)]⟩ ∧
  ∃ k : Nat, s.env 3 = .s (.int .i64 k) ∧ k ≤ p.code.length ∧ (p.code.take k).all rightB = true

set_option maxHeartbeats 2000000 in
theorem rrightp_impl : Impl Try.prog 14 spRightP := by
  refine impl_walk2 mixed cImg4_ok eqT_ok Try.func14 rfl Try.ntmps14 (by kernel_rfl) ?_
  intro xs r h
  unfold spRightP at h
  simp only at h
  (try split at h) <;> try (cases (show none = some r from h); done)
  rename_i x
  obtain ⟨p, hp, h3⟩ := Option.bind_eq_some_iff.1 h
  clear h
  cases h3
  refine ⟨_, prg_args hp _, by simp, ?_⟩
  by_cases H : headB p = true
  case neg =>
    have hr : rightP p = false := by unfold rightP; simp [H]
    rw [hr]
    simp only [go_sem, Nat.reduceEqDiff, Nat.reduceLT, Nat.reduceLeDiff, Nat.reduceAdd, Nat.reduceSub, Nat.reduceMul, Nat.reduceBEq, ↓reduceIte, reduceCtorEq, Int.reduceLT, Int.reduceToNat, UInt8.reduceToNat, Int.reduceLE, Int.reduceBEq, Int.reduceBNe, Int.reduceAdd, Int.reduceSub, Int.reduceMul, Int.reduceNeg, Prg.v, List.length_map]
    repeat' (first | (refine AG_of ?_ ?_ <;> intro h <;> simp only [go_sem, Nat.reduceEqDiff, Nat.reduceLT, Nat.reduceLeDiff, Nat.reduceAdd, Nat.reduceSub, Nat.reduceMul, Nat.reduceBEq, ↓reduceIte, reduceCtorEq, Int.reduceLT, Int.reduceToNat, UInt8.reduceToNat, Int.reduceLE, Int.reduceBEq, Int.reduceBNe, Int.reduceAdd, Int.reduceSub, Int.reduceMul, Int.reduceNeg, Prg.v, List.length_map, h]) | (refine AB_of ?_ ?_ <;> intro h <;> simp only [go_sem, Nat.reduceEqDiff, Nat.reduceLT, Nat.reduceLeDiff, Nat.reduceAdd, Nat.reduceSub, Nat.reduceMul, Nat.reduceBEq, ↓reduceIte, reduceCtorEq, Int.reduceLT, Int.reduceToNat, UInt8.reduceToNat, Int.reduceLE, Int.reduceBEq, Int.reduceBNe, Int.reduceAdd, Int.reduceSub, Int.reduceMul, Int.reduceNeg, Prg.v, List.length_map, h]) | (refine A_draw_of [] [] (by kernel_rfl) ?_ <;> simp only [go_sem, Nat.reduceEqDiff, Nat.reduceLT, Nat.reduceLeDiff, Nat.reduceAdd, Nat.reduceSub, Nat.reduceMul, Nat.reduceBEq, ↓reduceIte, reduceCtorEq, Int.reduceLT, Int.reduceToNat, UInt8.reduceToNat, Int.reduceLE, Int.reduceBEq, Int.reduceBNe, Int.reduceAdd, Int.reduceSub, Int.reduceMul, Int.reduceNeg, Prg.v, List.length_map]))
    all_goals first
      | (refine fin_ret ?_; simp only [resOf, Try.results14, Try.ntmps14, go_sem, Nat.reduceEqDiff, Nat.reduceLT, Nat.reduceLeDiff, Nat.reduceAdd, Nat.reduceSub, Nat.reduceMul, Nat.reduceBEq, ↓reduceIte, reduceCtorEq, Int.reduceLT, Int.reduceToNat, UInt8.reduceToNat, Int.reduceLE, Int.reduceBEq, Int.reduceBNe, Int.reduceAdd, Int.reduceSub, Int.reduceMul, Int.reduceNeg]; done)
      | (exfalso; apply H; simp_all [headB] <;> omega)
  have H' := H
  simp only [headB, Bool.and_eq_true, decide_eq_true_eq] at H'
  obtain ⟨⟨⟨⟨q1, q2⟩, q3⟩, q4⟩, q5⟩ := H'
  have g1 : decide ((p.code.length : Int) < 1) = false := by simp; omega
  have g2 : decide (2000 < (p.code.length : Int)) = false := by simp; omega
  have g3 : decide (p.size < 0) = false := by simp; omega
  have g4 : decide (65536 < p.size) = false := by simp; omega
  have g5 : decide (p.size < (p.data.length : Int)) = false := by simp; omega
  simp only [go_sem, Nat.reduceEqDiff, Nat.reduceLT, Nat.reduceLeDiff, Nat.reduceAdd, Nat.reduceSub, Nat.reduceMul, Nat.reduceBEq, ↓reduceIte, reduceCtorEq, Int.reduceLT, Int.reduceToNat, UInt8.reduceToNat, Int.reduceLE, Int.reduceBEq, Int.reduceBNe, Int.reduceAdd, Int.reduceSub, Int.reduceMul, Int.reduceNeg, Prg.v, List.length_map, g1, g2, g3, g4, g5]
  repeat' (first | (refine AG_of ?_ ?_ <;> intro h <;> simp only [go_sem, Nat.reduceEqDiff, Nat.reduceLT, Nat.reduceLeDiff, Nat.reduceAdd, Nat.reduceSub, Nat.reduceMul, Nat.reduceBEq, ↓reduceIte, reduceCtorEq, Int.reduceLT, Int.reduceToNat, UInt8.reduceToNat, Int.reduceLE, Int.reduceBEq, Int.reduceBNe, Int.reduceAdd, Int.reduceSub, Int.reduceMul, Int.reduceNeg, Prg.v, List.length_map, g1, g2, g3, g4, g5, h]) | (refine AB_of ?_ ?_ <;> intro h <;> simp only [go_sem, Nat.reduceEqDiff, Nat.reduceLT, Nat.reduceLeDiff, Nat.reduceAdd, Nat.reduceSub, Nat.reduceMul, Nat.reduceBEq, ↓reduceIte, reduceCtorEq, Int.reduceLT, Int.reduceToNat, UInt8.reduceToNat, Int.reduceLE, Int.reduceBEq, Int.reduceBNe, Int.reduceAdd, Int.reduceSub, Int.reduceMul, Int.reduceNeg, Prg.v, List.length_map, g1, g2, g3, g4, g5, h]) | (refine A_draw_of [] [] (by kernel_rfl) ?_ <;> simp only [go_sem, Nat.reduceEqDiff, Nat.reduceLT, Nat.reduceLeDiff, Nat.reduceAdd, Nat.reduceSub, Nat.reduceMul, Nat.reduceBEq, ↓reduceIte, reduceCtorEq, Int.reduceLT, Int.reduceToNat, UInt8.reduceToNat, Int.reduceLE, Int.reduceBEq, Int.reduceBNe, Int.reduceAdd, Int.reduceSub, Int.reduceMul, Int.reduceNeg, Prg.v, List.length_map, g1, g2, g3, g4, g5]))
  refine A_loop (rpI p) (fun s => p.code.length - (numOf (s.env 3)).toNat) ?_ ?_
  · refine ⟨by simp [upd], by simp [upd], 0, by simp [upd], by omega, rfl⟩
  intro s hs
  obtain ⟨e1, t1, k, e3, hk, hall⟩ := hs
  rcases Nat.lt_or_ge k p.code.length with hlt | hge
  · obtain ⟨⟨op, d, a, b, imm⟩, q⟩ : ∃ i, p.code[k]? = some i := ⟨p.code[k], List.getElem?_eq_getElem hlt⟩
    have g0 : decide ((k : Int) < p.code.length) = true := by simp; omega
    have z0 := Int.natCast_nonneg k
    have n2 : IntKind.i64.wrap ((k : Int) + 1) = (k + 1 : Nat) := by rw [w_i64 (by omega) (by omega)]; omega
    have htk : p.code.take (k + 1) = p.code.take k ++ [⟨op, d, a, b, imm⟩] := by
      rw [List.take_add_one, q]; rfl
    have hmem : (⟨op, d, a, b, imm⟩ : Ins) ∈ p.code := List.mem_of_getElem? q
    simp only [go_sem, Nat.reduceEqDiff, Nat.reduceLT, Nat.reduceLeDiff, Nat.reduceAdd, Nat.reduceSub, Nat.reduceMul, Nat.reduceBEq, ↓reduceIte, reduceCtorEq, Int.reduceLT, Int.reduceToNat, UInt8.reduceToNat, Int.reduceLE, Int.reduceBEq, Int.reduceBNe, Int.reduceAdd, Int.reduceSub, Int.reduceMul, Int.reduceNeg, e1, t1, e3, q, g0, z0, n2, cImg4_at, spRight_mv, spRight_fn, Int.toNat_natCast, List.getElem?_map, List.length_map, Ins.v]
    repeat' (first | (refine AG_of ?_ ?_ <;> intro h <;> simp only [go_sem, Nat.reduceEqDiff, Nat.reduceLT, Nat.reduceLeDiff, Nat.reduceAdd, Nat.reduceSub, Nat.reduceMul, Nat.reduceBEq, ↓reduceIte, reduceCtorEq, Int.reduceLT, Int.reduceToNat, UInt8.reduceToNat, Int.reduceLE, Int.reduceBEq, Int.reduceBNe, Int.reduceAdd, Int.reduceSub, Int.reduceMul, Int.reduceNeg, e1, t1, e3, q, g0, z0, n2, cImg4_at, spRight_mv, spRight_fn, Int.toNat_natCast, List.getElem?_map, List.length_map, Ins.v, h]) | (refine AB_of ?_ ?_ <;> intro h <;> simp only [go_sem, Nat.reduceEqDiff, Nat.reduceLT, Nat.reduceLeDiff, Nat.reduceAdd, Nat.reduceSub, Nat.reduceMul, Nat.reduceBEq, ↓reduceIte, reduceCtorEq, Int.reduceLT, Int.reduceToNat, UInt8.reduceToNat, Int.reduceLE, Int.reduceBEq, Int.reduceBNe, Int.reduceAdd, Int.reduceSub, Int.reduceMul, Int.reduceNeg, e1, t1, e3, q, g0, z0, n2, cImg4_at, spRight_mv, spRight_fn, Int.toNat_natCast, List.getElem?_map, List.length_map, Ins.v, h]) | (refine A_draw_of [] [] (by kernel_rfl) ?_ <;> simp only [go_sem, Nat.reduceEqDiff, Nat.reduceLT, Nat.reduceLeDiff, Nat.reduceAdd, Nat.reduceSub, Nat.reduceMul, Nat.reduceBEq, ↓reduceIte, reduceCtorEq, Int.reduceLT, Int.reduceToNat, UInt8.reduceToNat, Int.reduceLE, Int.reduceBEq, Int.reduceBNe, Int.reduceAdd, Int.reduceSub, Int.reduceMul, Int.reduceNeg, e1, t1, e3, q, g0, z0, n2, cImg4_at, spRight_mv, spRight_fn, Int.toNat_natCast, List.getElem?_map, List.length_map, Ins.v]))
    all_goals first
      | (refine ⟨⟨by simp [upd, e1], by simp [upd, t1], k + 1, by simp [upd], by omega, ?_⟩, by simp [upd, numOf, e3]; omega⟩
         rw [htk, List.all_append, hall]; simp_all; done)
      | (have hr : rightP p = false := by
           have : p.code.all rightB = false := by
             rw [List.all_eq_false]
             exact ⟨_, hmem, by simp_all⟩
           unfold rightP; simp [this]
         rw [hr]
         refine fin_ret ?_
         simp only [resOf, Try.results14, Try.ntmps14, go_sem, Nat.reduceEqDiff, Nat.reduceLT, Nat.reduceLeDiff, Nat.reduceAdd, Nat.reduceSub, Nat.reduceMul, Nat.reduceBEq, ↓reduceIte, reduceCtorEq, Int.reduceLT, Int.reduceToNat, UInt8.reduceToNat, Int.reduceLE, Int.reduceBEq, Int.reduceBNe, Int.reduceAdd, Int.reduceSub, Int.reduceMul, Int.reduceNeg])
  · have hkl : k = p.code.length := by omega
    have g0 : decide ((k : Int) < p.code.length) = false := by simp; omega
    have ht : spRTargets.fn [.agg [.lst false 5 (p.code.map Ins.v), .s (.int .i64 p.size), .lst false 1 (p.data.map u8v)]] = some (.s (.int .i64 (targs p))) := by
      have := prgOf_v p
      unfold Prg.v at this
      simp [spRTargets, this]
      omega
    simp only [go_sem, Nat.reduceEqDiff, Nat.reduceLT, Nat.reduceLeDiff, Nat.reduceAdd, Nat.reduceSub, Nat.reduceMul, Nat.reduceBEq, ↓reduceIte, reduceCtorEq, Int.reduceLT, Int.reduceToNat, UInt8.reduceToNat, Int.reduceLE, Int.reduceBEq, Int.reduceBNe, Int.reduceAdd, Int.reduceSub, Int.reduceMul, Int.reduceNeg, e1, t1, e3, g0, ht, cImg4_at, spRTargets_mv, List.length_map]
    repeat' (first | (refine AG_of ?_ ?_ <;> intro h <;> simp only [go_sem, Nat.reduceEqDiff, Nat.reduceLT, Nat.reduceLeDiff, Nat.reduceAdd, Nat.reduceSub, Nat.reduceMul, Nat.reduceBEq, ↓reduceIte, reduceCtorEq, Int.reduceLT, Int.reduceToNat, UInt8.reduceToNat, Int.reduceLE, Int.reduceBEq, Int.reduceBNe, Int.reduceAdd, Int.reduceSub, Int.reduceMul, Int.reduceNeg, e1, t1, e3, g0, ht, cImg4_at, spRTargets_mv, List.length_map, h]) | (refine AB_of ?_ ?_ <;> intro h <;> simp only [go_sem, Nat.reduceEqDiff, Nat.reduceLT, Nat.reduceLeDiff, Nat.reduceAdd, Nat.reduceSub, Nat.reduceMul, Nat.reduceBEq, ↓reduceIte, reduceCtorEq, Int.reduceLT, Int.reduceToNat, UInt8.reduceToNat, Int.reduceLE, Int.reduceBEq, Int.reduceBNe, Int.reduceAdd, Int.reduceSub, Int.reduceMul, Int.reduceNeg, e1, t1, e3, g0, ht, cImg4_at, spRTargets_mv, List.length_map, h]) | (refine A_draw_of [] [] (by kernel_rfl) ?_ <;> simp only [go_sem, Nat.reduceEqDiff, Nat.reduceLT, Nat.reduceLeDiff, Nat.reduceAdd, Nat.reduceSub, Nat.reduceMul, Nat.reduceBEq, ↓reduceIte, reduceCtorEq, Int.reduceLT, Int.reduceToNat, UInt8.reduceToNat, Int.reduceLE, Int.reduceBEq, Int.reduceBNe, Int.reduceAdd, Int.reduceSub, Int.reduceMul, Int.reduceNeg, e1, t1, e3, g0, ht, cImg4_at, spRTargets_mv, List.length_map]))
    all_goals (first | refine fin_ret ?_ | refine fin_normal ?_)
    all_goals simp only [resOf, Try.results14, Try.ntmps14, go_sem, Nat.reduceEqDiff, Nat.reduceLT, Nat.reduceLeDiff, Nat.reduceAdd, Nat.reduceSub, Nat.reduceMul, Nat.reduceBEq, ↓reduceIte, reduceCtorEq, Int.reduceLT, Int.reduceToNat, UInt8.reduceToNat, Int.reduceLE, Int.reduceBEq, Int.reduceBNe, Int.reduceAdd, Int.reduceSub, Int.reduceMul, Int.reduceNeg]
    all_goals
      have ha : p.code.all rightB = true := by rw [hkl, List.take_length] at hall; exact hall
      unfold rightP targs
      rw [H, ha]
      cases targsB p <;> rfl
end Go.Proofs.Ytecckfhmgnlmnaa
