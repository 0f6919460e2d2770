/-
ImageTells and ImageApart by the plain reckoning. No condition.
-/
import Derived.Test.YtecckfhmgnlmnaaImgV
namespace Go.Proofs.Ytecckfhmgnlmnaa
set_option linter.unusedSimpArgs false

def spBytesL : Spec := ⟨[], fun xs => (spBytes.fn xs).map asLst⟩
def cImg14 : Orc := upd (upd (upd (upd (upd (upd cImg13 9 (some spTrue)) 18 (some spBytesL)) 19 (some spBytesL)) 20 (some spSame)) 16 (some spTargets)) 14 (some spRightP)
theorem cImg14_ok : ∀ g sp, cImg14 g = some sp → Impl Try.prog g sp :=
  orc_upd (orc_upd (orc_upd (orc_upd (orc_upd (orc_upd cImg13_ok alive_impl) (impl_lst bytes_impl)) (impl_lst rbytes_impl)) same_impl) targets_impl) rrightp_impl
theorem cImg14_at : cImg14 9 = some spTrue ∧ cImg14 18 = some spBytesL ∧ cImg14 19 = some spBytesL ∧ cImg14 20 = some spSame ∧
    cImg14 12 = some spRead ∧ cImg14 15 = some spNum ∧ cImg14 10 = some spFew ∧ cImg14 11 = some spRead ∧
    cImg14 13 = some spRightP ∧ cImg14 14 = some spRightP ∧ cImg14 16 = some spTargets ∧ cImg14 17 = some spRTargets := ⟨rfl, rfl, rfl, rfl, rfl, rfl, rfl, rfl, rfl, rfl, rfl, rfl⟩
theorem spTrue_mv : spTrue.mv = [] := rfl
theorem spTrue_fn : spTrue.fn [] = some (.s (.bool true)) := rfl
theorem spBytesL_mv : spBytesL.mv = [] := rfl
theorem spSame_mv : spSame.mv = [] := rfl
theorem bytesL_v (p : Prg) : spBytesL.fn [p.v] = some (if rightP p = true then .lst true 1 ((imgB p).map u8v) else .s (.slice none 0 0)) := by
  simp only [spBytesL, spBytes, prgOf_v, Option.bind_some, Option.map_some]
  split <;> rfl
def fewB (p : Prg) : Bool := decide ((p.code.length : Int) ≤ 200) && decide ((p.data.length : Int) ≤ 500)
theorem few_v (p : Prg) : spFew.fn [p.v] = some (.s (.bool (fewB p))) := by
  simp only [spFew, prgOf_v, Option.bind_some]
  rfl
theorem rightP_v (p : Prg) : spRightP.fn [p.v] = some (.s (.bool (rightP p))) := spRightP_v p
theorem targs_v {p : Prg} (h : p.code.length ≤ 1000000000) : spTargets.fn [p.v] = some (.s (.int .i64 (targs p))) := by
  simp only [spTargets, prgOf_v, Option.bind_some, if_pos h]
theorem rtargs_v {p : Prg} (h : p.code.length ≤ 8000) : spRTargets.fn [p.v] = some (.s (.int .i64 (targs p))) := by
  simp only [spRTargets, prgOf_v, Option.bind_some, if_pos h]
theorem sameP_self (p : Prg) : sameP p p = true := by simp [sameP]
/-- what Read answers, as a program -/
def optP : Option Prg → Prg
  | none => ⟨[], 0, []⟩
  | some p => p
def optE (o : Option Prg) : V := match o with
  | none => .agg [.s (.slice none 0 0), .s (.int .i64 0), .s (.slice none 0 0)]
  | some p => p.v
theorem optE_of (o : Option Prg) : prgOf (optE o) = some (optP o) := by
  cases o with
  | none => rfl
  | some p => exact prgOf_v p
theorem same_opt {o : Option Prg} {p : Prg} (h : (optP o).code.length ≤ 1000000000) : spSame.fn [optE o, p.v] = some (.s (.bool (sameP (optP o) p))) := by
  simp only [spSame, prgOf_v, optE_of, Option.bind_some, if_pos h]
theorem same_optopt {o q : Option Prg} (h : (optP o).code.length ≤ 1000000000) : spSame.fn [optE o, optE q] = some (.s (.bool (sameP (optP o) (optP q)))) := by
  simp only [spSame, optE_of, Option.bind_some, if_pos h]
theorem read_code (l : List Int) : (optP (readX l).1).code.length ≤ 1000000000 := by
  unfold readX
  (repeat' split) <;> simp only [optP, List.length_nil, Nat.zero_le, List.length_map, List.length_range]
  rename_i c3 _ _ _
  simp only [Bool.not_eq_false, sizesB, Bool.and_eq_true, decide_eq_true_eq] at c3
  omega

def spTells : Spec := ⟨[], fun xs => match xs with
  | [x, y] => (prgOf x).bind fun p => (lOf 1 y).bind fun l => (l.mapM u8Of).bind fun l => if l.all byte = true then some (.s (.bool true)) else none
  | _ => none⟩
set_option maxHeartbeats 4000000 in
set_option maxRecDepth 8000 in
theorem tells_impl : Impl Try.prog 3 spTells := by
  refine impl_walk2 mixed cImg14_ok eqT_ok Try.func3 rfl Try.ntmps3 (by kernel_rfl) ?_
  intro xs r h
  unfold spTells at h
  simp only at h
  (try split at h) <;> try (cases (show none = some r from h); done)
  rename_i x y
  obtain ⟨p, hp, h3⟩ := Option.bind_eq_some_iff.1 h
  obtain ⟨l1, hl1, h4⟩ := Option.bind_eq_some_iff.1 h3
  obtain ⟨l, hl, h5⟩ := Option.bind_eq_some_iff.1 h4
  have e := mapM_eq (fun _ _ => u8Of_eq) hl
  clear h h3 h4
  subst e
  split at h5
  case isFalse => cases h5
  rename_i hb
  cases h5
  refine ⟨_, (SeesL.cons (prgOf_sees hp) (.cons (lOf_sees hl1) .nil)).args, by simp, ?_⟩
  have hf := few_v p
  cases hfew : fewB p
  · rw [hfew] at hf
    simp only [Prg.v] at hf
    simp only [go_sem, Nat.reduceEqDiff, Nat.reduceLT, Nat.reduceLeDiff, Nat.reduceAdd, Nat.reduceSub, Nat.reduceMul, Nat.reduceBEq, ↓reduceIte, reduceCtorEq, Int.reduceLT, Int.reduceToNat, UInt8.reduceToNat, Int.reduceLE, Int.reduceBEq, Int.reduceBNe, Int.reduceAdd, Int.reduceSub, Int.reduceMul, Int.reduceNeg, Prg.v, cImg14_at, spTrue_mv, spTrue_fn, spFew_mv, hf]
    repeat' (first | (refine AG_of ?_ ?_ <;> intro h <;> simp only [go_sem, Nat.reduceEqDiff, Nat.reduceLT, Nat.reduceLeDiff, Nat.reduceAdd, Nat.reduceSub, Nat.reduceMul, Nat.reduceBEq, ↓reduceIte, reduceCtorEq, Int.reduceLT, Int.reduceToNat, UInt8.reduceToNat, Int.reduceLE, Int.reduceBEq, Int.reduceBNe, Int.reduceAdd, Int.reduceSub, Int.reduceMul, Int.reduceNeg, Prg.v, cImg14_at, spTrue_mv, spTrue_fn, spFew_mv, hf, h]) | (refine AB_of ?_ ?_ <;> intro h <;> simp only [go_sem, Nat.reduceEqDiff, Nat.reduceLT, Nat.reduceLeDiff, Nat.reduceAdd, Nat.reduceSub, Nat.reduceMul, Nat.reduceBEq, ↓reduceIte, reduceCtorEq, Int.reduceLT, Int.reduceToNat, UInt8.reduceToNat, Int.reduceLE, Int.reduceBEq, Int.reduceBNe, Int.reduceAdd, Int.reduceSub, Int.reduceMul, Int.reduceNeg, Prg.v, cImg14_at, spTrue_mv, spTrue_fn, spFew_mv, hf, h]) | (refine A_draw_of [] [] (by kernel_rfl) ?_ <;> simp only [go_sem, Nat.reduceEqDiff, Nat.reduceLT, Nat.reduceLeDiff, Nat.reduceAdd, Nat.reduceSub, Nat.reduceMul, Nat.reduceBEq, ↓reduceIte, reduceCtorEq, Int.reduceLT, Int.reduceToNat, UInt8.reduceToNat, Int.reduceLE, Int.reduceBEq, Int.reduceBNe, Int.reduceAdd, Int.reduceSub, Int.reduceMul, Int.reduceNeg, Prg.v, cImg14_at, spTrue_mv, spTrue_fn, spFew_mv, hf]))
    all_goals (first | refine fin_ret ?_ | refine fin_normal ?_)
    all_goals simp only [resOf, Try.results3, Try.ntmps3, go_sem, Nat.reduceEqDiff, Nat.reduceLT, Nat.reduceLeDiff, Nat.reduceAdd, Nat.reduceSub, Nat.reduceMul, Nat.reduceBEq, ↓reduceIte, reduceCtorEq, Int.reduceLT, Int.reduceToNat, UInt8.reduceToNat, Int.reduceLE, Int.reduceBEq, Int.reduceBNe, Int.reduceAdd, Int.reduceSub, Int.reduceMul, Int.reduceNeg]
  rw [hfew] at hf
  by_cases hlen : l.length ≤ 1500
  case neg =>
    have g1 : decide (1500 < (l.length : Int)) = true := by simp; omega
    simp only [Prg.v] at hf
    simp only [go_sem, Nat.reduceEqDiff, Nat.reduceLT, Nat.reduceLeDiff, Nat.reduceAdd, Nat.reduceSub, Nat.reduceMul, Nat.reduceBEq, ↓reduceIte, reduceCtorEq, Int.reduceLT, Int.reduceToNat, UInt8.reduceToNat, Int.reduceLE, Int.reduceBEq, Int.reduceBNe, Int.reduceAdd, Int.reduceSub, Int.reduceMul, Int.reduceNeg, Prg.v, cImg14_at, spTrue_mv, spTrue_fn, spFew_mv, hf, g1, List.length_map]
    repeat' (first | (refine AG_of ?_ ?_ <;> intro h <;> simp only [go_sem, Nat.reduceEqDiff, Nat.reduceLT, Nat.reduceLeDiff, Nat.reduceAdd, Nat.reduceSub, Nat.reduceMul, Nat.reduceBEq, ↓reduceIte, reduceCtorEq, Int.reduceLT, Int.reduceToNat, UInt8.reduceToNat, Int.reduceLE, Int.reduceBEq, Int.reduceBNe, Int.reduceAdd, Int.reduceSub, Int.reduceMul, Int.reduceNeg, Prg.v, cImg14_at, spTrue_mv, spTrue_fn, spFew_mv, hf, g1, List.length_map, h]) | (refine AB_of ?_ ?_ <;> intro h <;> simp only [go_sem, Nat.reduceEqDiff, Nat.reduceLT, Nat.reduceLeDiff, Nat.reduceAdd, Nat.reduceSub, Nat.reduceMul, Nat.reduceBEq, ↓reduceIte, reduceCtorEq, Int.reduceLT, Int.reduceToNat, UInt8.reduceToNat, Int.reduceLE, Int.reduceBEq, Int.reduceBNe, Int.reduceAdd, Int.reduceSub, Int.reduceMul, Int.reduceNeg, Prg.v, cImg14_at, spTrue_mv, spTrue_fn, spFew_mv, hf, g1, List.length_map, h]) | (refine A_draw_of [] [] (by kernel_rfl) ?_ <;> simp only [go_sem, Nat.reduceEqDiff, Nat.reduceLT, Nat.reduceLeDiff, Nat.reduceAdd, Nat.reduceSub, Nat.reduceMul, Nat.reduceBEq, ↓reduceIte, reduceCtorEq, Int.reduceLT, Int.reduceToNat, UInt8.reduceToNat, Int.reduceLE, Int.reduceBEq, Int.reduceBNe, Int.reduceAdd, Int.reduceSub, Int.reduceMul, Int.reduceNeg, Prg.v, cImg14_at, spTrue_mv, spTrue_fn, spFew_mv, hf, g1, List.length_map]))
    all_goals (first | refine fin_ret ?_ | refine fin_normal ?_)
    all_goals simp only [resOf, Try.results3, Try.ntmps3, go_sem, Nat.reduceEqDiff, Nat.reduceLT, Nat.reduceLeDiff, Nat.reduceAdd, Nat.reduceSub, Nat.reduceMul, Nat.reduceBEq, ↓reduceIte, reduceCtorEq, Int.reduceLT, Int.reduceToNat, UInt8.reduceToNat, Int.reduceLE, Int.reduceBEq, Int.reduceBNe, Int.reduceAdd, Int.reduceSub, Int.reduceMul, Int.reduceNeg]
  have g1 : decide (1500 < (l.length : Int)) = false := by simp; omega
  have hcl : p.code.length ≤ 1000000000 := by
    simp only [fewB, Bool.and_eq_true, decide_eq_true_eq] at hfew; omega
  have f1 : l.length * 1 ≤ 140737488355328 := by omega
  have sc := scal_u8 l
  have hr := read_v hb (by omega)
  have h1 := rightP_v p
  have h2 := targs_v hcl
  have h3 := rtargs_v (p := p) (by simp only [fewB, Bool.and_eq_true, decide_eq_true_eq] at hfew; omega)
  have h4 := bytesL_v p
  have a1 := u8_all (imgB p)
  have n1 := u8_nums (imgB p)
  have hs := same_optopt (q := (readX l).1) (read_code l)
  rw [sameP_self] at hs
  obtain ⟨o, ho⟩ : ∃ o, (readX l).1 = o := ⟨_, rfl⟩
  obtain ⟨e, he⟩ : ∃ e, (readX l).2 = e := ⟨_, rfl⟩
  rw [ho] at hs
  rw [ho, he] at hr
  clear ho he
  simp only [Prg.v] at hf h1 h2 h3 h4
  cases hrp : rightP p
  all_goals
    rw [hrp] at h1 h4
    cases o
  all_goals
    simp only [optV, optE, Prg.v, if_true, if_false, Bool.false_eq_true] at hr hs h4
    simp only [go_sem, Nat.reduceEqDiff, Nat.reduceLT, Nat.reduceLeDiff, Nat.reduceAdd, Nat.reduceSub, Nat.reduceMul, Nat.reduceBEq, ↓reduceIte, reduceCtorEq, Int.reduceLT, Int.reduceToNat, UInt8.reduceToNat, Int.reduceLE, Int.reduceBEq, Int.reduceBNe, Int.reduceAdd, Int.reduceSub, Int.reduceMul, Int.reduceNeg, Prg.v, cImg14_at, spTrue_mv, spTrue_fn, spFew_mv, hf, g1, spRead_mv, hr, sc, f1, List.length_map]
    repeat' (first | (refine AG_of ?_ ?_ <;> intro h <;> simp only [go_sem, Nat.reduceEqDiff, Nat.reduceLT, Nat.reduceLeDiff, Nat.reduceAdd, Nat.reduceSub, Nat.reduceMul, Nat.reduceBEq, ↓reduceIte, reduceCtorEq, Int.reduceLT, Int.reduceToNat, UInt8.reduceToNat, Int.reduceLE, Int.reduceBEq, Int.reduceBNe, Int.reduceAdd, Int.reduceSub, Int.reduceMul, Int.reduceNeg, Prg.v, cImg14_at, spTrue_mv, spTrue_fn, spFew_mv, hf, g1, spRead_mv, hr, sc, f1, List.length_map, h]) | (refine AB_of ?_ ?_ <;> intro h <;> simp only [go_sem, Nat.reduceEqDiff, Nat.reduceLT, Nat.reduceLeDiff, Nat.reduceAdd, Nat.reduceSub, Nat.reduceMul, Nat.reduceBEq, ↓reduceIte, reduceCtorEq, Int.reduceLT, Int.reduceToNat, UInt8.reduceToNat, Int.reduceLE, Int.reduceBEq, Int.reduceBNe, Int.reduceAdd, Int.reduceSub, Int.reduceMul, Int.reduceNeg, Prg.v, cImg14_at, spTrue_mv, spTrue_fn, spFew_mv, hf, g1, spRead_mv, hr, sc, f1, List.length_map, h]))
  all_goals
    refine A_draw_of [] [] (by kernel_rfl) ?_
    simp only [go_sem, Nat.reduceEqDiff, Nat.reduceLT, Nat.reduceLeDiff, Nat.reduceAdd, Nat.reduceSub, Nat.reduceMul, Nat.reduceBEq, ↓reduceIte, reduceCtorEq, Int.reduceLT, Int.reduceToNat, UInt8.reduceToNat, Int.reduceLE, Int.reduceBEq, Int.reduceBNe, Int.reduceAdd, Int.reduceSub, Int.reduceMul, Int.reduceNeg, cImg14_at, spRightP_mv, h1, h2, h3, h4, spTargets_mv, spRTargets_mv, spBytesL_mv, spNum_mv, spNum_fn, spSame_mv, hs, a1, n1]
    repeat' (first | (refine AG_of ?_ ?_ <;> intro h <;> simp only [go_sem, Nat.reduceEqDiff, Nat.reduceLT, Nat.reduceLeDiff, Nat.reduceAdd, Nat.reduceSub, Nat.reduceMul, Nat.reduceBEq, ↓reduceIte, reduceCtorEq, Int.reduceLT, Int.reduceToNat, UInt8.reduceToNat, Int.reduceLE, Int.reduceBEq, Int.reduceBNe, Int.reduceAdd, Int.reduceSub, Int.reduceMul, Int.reduceNeg, cImg14_at, spRightP_mv, h1, h2, h3, h4, spTargets_mv, spRTargets_mv, spBytesL_mv, spNum_mv, spNum_fn, spSame_mv, hs, a1, n1, h]) | (refine AB_of ?_ ?_ <;> intro h <;> simp only [go_sem, Nat.reduceEqDiff, Nat.reduceLT, Nat.reduceLeDiff, Nat.reduceAdd, Nat.reduceSub, Nat.reduceMul, Nat.reduceBEq, ↓reduceIte, reduceCtorEq, Int.reduceLT, Int.reduceToNat, UInt8.reduceToNat, Int.reduceLE, Int.reduceBEq, Int.reduceBNe, Int.reduceAdd, Int.reduceSub, Int.reduceMul, Int.reduceNeg, cImg14_at, spRightP_mv, h1, h2, h3, h4, spTargets_mv, spRTargets_mv, spBytesL_mv, spNum_mv, spNum_fn, spSame_mv, hs, a1, n1, h]))
  all_goals (first | refine fin_ret ?_ | refine fin_normal ?_)
  all_goals simp only [resOf, Try.results3, Try.ntmps3, go_sem, Nat.reduceEqDiff, Nat.reduceLT, Nat.reduceLeDiff, Nat.reduceAdd, Nat.reduceSub, Nat.reduceMul, Nat.reduceBEq, ↓reduceIte, reduceCtorEq, Int.reduceLT, Int.reduceToNat, UInt8.reduceToNat, Int.reduceLE, Int.reduceBEq, Int.reduceBNe, Int.reduceAdd, Int.reduceSub, Int.reduceMul, Int.reduceNeg]
end Go.Proofs.Ytecckfhmgnlmnaa
