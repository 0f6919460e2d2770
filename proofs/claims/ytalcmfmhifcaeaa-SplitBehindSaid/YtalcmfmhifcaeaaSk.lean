/-
SplitBehind by the plain reckoning. No condition.
-/
import Derived.Test.YtalcmfmhifcaeaaSj
namespace Go.Proofs.Ytalcmfmhifcaeaa
set_option linter.unusedSimpArgs false
set_option linter.unusedVariables false

def spSBeh : Spec := ⟨[], fun xs => match xs with
  | [x, .agg [.s (.int .i64 _), .s (.int .i64 _), .s (.int .i64 _), .s (.int .i64 _), .s (.int .i64 _)], .s (.int .i64 _)] => (prgOf x).bind fun _ => some (.s (.bool true))
  | _ => none⟩
def cSp3 : Orc := upd cSp2 14 (some spRTarget)
theorem cSp3_ok : ∀ g sp, cSp3 g = some sp → Impl Try.prog g sp := orc_upd cSp2_ok rtarget_impl
theorem cSp3_at : cSp3 6 = some spTrue ∧ cSp3 10 = some spSpW ∧ cSp3 12 = some spNum13 ∧ cSp3 15 = some spSameS ∧
    cSp3 8 = some spRightP ∧ cSp3 11 = some spOwners ∧ cSp3 13 = some spClosed ∧ cSp3 14 = some spRTarget := ⟨rfl, rfl, rfl, rfl, rfl, rfl, rfl, rfl⟩
theorem both_v (p : Prg) (i : Ins) : (bothP p (oneP p i)).v = .agg [.lst false 5 (p.code.map Ins.v ++ [i.v]), .s (.int .i64 p.size), .lst false 1 (p.data.map u8v)] := by
  unfold bothP oneP Prg.v
  simp
set_option maxRecDepth 8000 in
set_option maxHeartbeats 16000000 in
theorem sbeh_impl : Impl Try.prog 5 spSBeh := by
  refine impl_walk2 mixed cSp3_ok eqT_ok Try.func5 rfl Try.ntmps5 (by kernel_rfl) ?_
  intro xs r h
  unfold spSBeh at h
  simp only at h
  (try split at h) <;> try (cases (show none = some r from h); done)
  rename_i x op d a b2 imm pick
  obtain ⟨p, hp, h3⟩ := Option.bind_eq_some_iff.1 h
  clear h
  cases h3
  refine ⟨_, (SeesL.cons (prgOf_sees hp) .same).args, by simp, ?_⟩
  have hR := rightP_v p
  simp only [Prg.v] at hR
  have hO := spOwners_fn pick
  have hql := ownS_len pick 15
  have hW := spSpW_v hql p
  have hC := closed_v hql p
  obtain ⟨i, hi⟩ : ∃ i : Ins, i = ⟨op, d, a, b2, imm⟩ := ⟨_, rfl⟩
  have hiv : i.v = .agg [.s (.int .i64 op), .s (.int .i64 d), .s (.int .i64 a), .s (.int .i64 b2), .s (.int .i64 imm)] := by rw [hi]; rfl
  have hWq := spSpW_v hql (bothP p (oneP p i))
  have hCq := closed_v hql (bothP p (oneP p i))
  obtain ⟨q, hqe⟩ : ∃ q, ownS pick 15 = q := ⟨_, rfl⟩
  rw [hqe] at hO hql hW hC hWq hCq
  have htq := take_iv hql
  rw [both_v, hiv] at hWq hCq
  simp only [Prg.v] at hW hC
  by_cases c0 : 80 < p.code.length
  · have g0 : decide (80 < (p.code.length : Int)) = true := by simp; omega
    simp only [go_sem, seval, eq_self, reduceCtorEq, Prg.v, cSp3_at, spTrue_mv, spTrue_fn, spOwners_mv, hO, htq, hql, g0, List.length_map]
    repeat' ((first | (refine AG_of ?_ ?_ <;> intro h) | (refine AB_of ?_ ?_ <;> intro h) | (refine A_draw_of [] [] (by kernel_rfl) ?_ <;> have h := mark)) <;> simp only [go_sem, seval, eq_self, reduceCtorEq, Prg.v, cSp3_at, spTrue_mv, spTrue_fn, spOwners_mv, hO, htq, hql, g0, List.length_map, h])
    all_goals (first | refine fin_ret ?_ | refine fin_normal ?_)
    all_goals simp only [resOf, Try.results5, Try.ntmps5, go_sem, seval, eq_self, reduceCtorEq]
  have g0 : decide (80 < (p.code.length : Int)) = false := by simp; omega
  cases c2 : rightP p
  · rw [c2] at hR
    simp only [go_sem, seval, eq_self, reduceCtorEq, Prg.v, cSp3_at, spTrue_mv, spTrue_fn, spOwners_mv, hO, htq, hql, g0, spRightP_mv, hR, List.length_map]
    repeat' ((first | (refine AG_of ?_ ?_ <;> intro h) | (refine AB_of ?_ ?_ <;> intro h) | (refine A_draw_of [] [] (by kernel_rfl) ?_ <;> have h := mark)) <;> simp only [go_sem, seval, eq_self, reduceCtorEq, Prg.v, cSp3_at, spTrue_mv, spTrue_fn, spOwners_mv, hO, htq, hql, g0, spRightP_mv, hR, List.length_map, h])
    all_goals (first | refine fin_ret ?_ | refine fin_normal ?_)
    all_goals simp only [resOf, Try.results5, Try.ntmps5, go_sem, seval, eq_self, reduceCtorEq]
  rw [c2] at hR
  have hpl := right_len c2
  obtain ⟨E, hE⟩ : ∃ E : Nat, p.code.length = E + 1 := ⟨p.code.length - 1, by omega⟩
  have wE : IntKind.i64.wrap ((p.code.length : Int) - 1) = (E : Nat) := by rw [w_i64 (by omega) (by omega)]; omega
  have zE := Int.natCast_nonneg E
  obtain ⟨x, qx⟩ : ∃ x, p.code[E]? = some x := ⟨p.code[E]'(by omega), List.getElem?_eq_getElem (by omega)⟩
  have hop := op_halt2 (right_at c2 qx).1
  cases c4 : (x.op != 41)
  case true =>
    simp only [go_sem, seval, eq_self, reduceCtorEq, Prg.v, cSp3_at, spTrue_mv, spTrue_fn, spOwners_mv, hO, htq, hql, g0, spRightP_mv, hR, wE, zE, qx, c4, Ins.v, Int.toNat_natCast, List.getElem?_map, List.length_map]
    repeat' ((first | (refine AG_of ?_ ?_ <;> intro h) | (refine AB_of ?_ ?_ <;> intro h) | (refine A_draw_of [] [] (by kernel_rfl) ?_ <;> have h := mark)) <;> simp only [go_sem, seval, eq_self, reduceCtorEq, Prg.v, cSp3_at, spTrue_mv, spTrue_fn, spOwners_mv, hO, htq, hql, g0, spRightP_mv, hR, wE, zE, qx, c4, Ins.v, Int.toNat_natCast, List.getElem?_map, List.length_map, h])
    all_goals (first | refine fin_ret ?_ | refine fin_normal ?_)
    all_goals simp only [resOf, Try.results5, Try.ntmps5, go_sem, seval, eq_self, reduceCtorEq]
  cases c5 : closedB p q
  · rw [c5] at hC
    simp only [go_sem, seval, eq_self, reduceCtorEq, Prg.v, cSp3_at, spTrue_mv, spTrue_fn, spOwners_mv, hO, htq, hql, g0, spRightP_mv, hR, wE, zE, qx, c4, Ins.v, spClosed_mv, hC, Int.toNat_natCast, List.getElem?_map, List.length_map]
    repeat' ((first | (refine AG_of ?_ ?_ <;> intro h) | (refine AB_of ?_ ?_ <;> intro h) | (refine A_draw_of [] [] (by kernel_rfl) ?_ <;> have h := mark)) <;> simp only [go_sem, seval, eq_self, reduceCtorEq, Prg.v, cSp3_at, spTrue_mv, spTrue_fn, spOwners_mv, hO, htq, hql, g0, spRightP_mv, hR, wE, zE, qx, c4, Ins.v, spClosed_mv, hC, Int.toNat_natCast, List.getElem?_map, List.length_map, h])
    all_goals (first | refine fin_ret ?_ | refine fin_normal ?_)
    all_goals simp only [resOf, Try.results5, Try.ntmps5, go_sem, seval, eq_self, reduceCtorEq]
  rw [c5] at hC
  have h8 : form x.op = 8 := by
    rw [c4] at hop
    simpa using hop.symm
  have hx8 : ∃ x, p.code[p.code.length - 1]? = some x ∧ form x.op = 8 := ⟨x, by rw [hE]; exact qx, h8⟩
  rw [swV_ok c5] at hW
  have hLq : (bothP p (oneP p i)).code.length = p.code.length + 1 := both_len _ _
  have hT : spRTarget.fn [(bothP p (oneP p i)).v, .s (.int .i64 p.code.length)] = some (.s (.int .i64 (rT (p.code.length + 1) p.code.length i))) := by
    have hg : (bothP p (oneP p i)).code[p.code.length]? = some i := by
      have := both_ge p (oneP p i) 0
      rw [Nat.add_zero] at this
      rw [this]; rfl
    simp only [spRTarget, prgOf_v, Option.bind_some]
    rw [hLq, if_pos ⟨by omega, by omega⟩, Int.toNat_natCast, hg]; rfl
  rw [both_v, hiv] at hT
  obtain ⟨O, hOe⟩ : ∃ O, p.code.map Ins.v = O := ⟨_, rfl⟩
  have hOl : O.length = p.code.length := by rw [← hOe, List.length_map]
  have hsc := scal_ins3 p.code
  have qO : O[E]? = some x.v := by rw [← hOe, List.getElem?_map, qx]; rfl
  have f1 : p.code.length * 40 ≤ 140737488355328 := by omega
  have f2 : (p.code.length + 1) * 40 ≤ 140737488355328 := by omega
  rw [hOe] at hsc hR hW hC hWq hCq hT
  have hrt : rT (p.code.length + 1) p.code.length i = rT (p.code.length + 1) p.code.length i := rfl
  obtain ⟨tg, hto⟩ : ∃ tg, rT (p.code.length + 1) p.code.length i = tg := ⟨_, rfl⟩
  rw [hto] at hT
  have hl1 := splitL_len p q
  simp only [go_sem, seval, eq_self, reduceCtorEq, Prg.v, hOe, cSp3_at, spTrue_mv, spTrue_fn, spOwners_mv, hO, htq, hql, g0, spRightP_mv, hR, wE, zE, qO, c4, Ins.v, spClosed_mv, hC, hOl, Int.toNat_natCast, List.length_map]
  repeat' ((first | (refine AG_of ?_ ?_ <;> intro h) | (refine AB_of ?_ ?_ <;> intro h)) <;> simp only [go_sem, seval, eq_self, reduceCtorEq, Prg.v, hOe, cSp3_at, spTrue_mv, spTrue_fn, spOwners_mv, hO, htq, hql, g0, spRightP_mv, hR, wE, zE, qO, c4, Ins.v, spClosed_mv, hC, hOl, Int.toNat_natCast, List.length_map, h])
  refine A_draw_of [56, 58, 9] [56, 58, 59, 9, 1058056, 1009056, 1009058, 1009059] (by kernel_rfl) ?_
  by_cases hno : 0 ≤ tg ∧ tg < p.code.length
  · have c6 : decide (0 ≤ tg) = true := by simp; omega
    have c7 : decide (tg < (p.code.length : Int)) = true := by simp; omega
    simp only [go_sem, seval, eq_self, reduceCtorEq, Prg.v, hsc, f1, f2, hiv, hOl, cSp3_at, spRTarget_mv, hT, spSpW_mv, hW, spNum13_mv, spNum13_fn, htq, hql, hl1, c6, c7, z16, List.replicate, List.length_map]
    repeat' ((first | (refine AG_of ?_ ?_ <;> intro h) | (refine AB_of ?_ ?_ <;> intro h) | (refine A_draw_of [] [] (by kernel_rfl) ?_ <;> have h := mark)) <;> simp only [go_sem, seval, eq_self, reduceCtorEq, Prg.v, hsc, f1, f2, hiv, hOl, cSp3_at, spRTarget_mv, hT, spSpW_mv, hW, spNum13_mv, spNum13_fn, htq, hql, hl1, c6, c7, z16, List.replicate, List.length_map, h])
    all_goals (first | refine fin_ret ?_ | refine fin_normal ?_)
    all_goals simp only [resOf, Try.results5, Try.ntmps5, go_sem, seval, eq_self, reduceCtorEq]
  have hN := cutL_pos c2
  cases c8 : closedB (bothP p (oneP p i)) q
  · rw [swV_no c8] at hWq
    simp only [noS] at hWq
    rw [c8] at hCq
    by_cases h6 : 0 ≤ tg
    · have c6 : decide (0 ≤ tg) = true := by simp; omega
      have c7 : decide (tg < (p.code.length : Int)) = false := by simp; omega
      simp only [go_sem, seval, eq_self, reduceCtorEq, Prg.v, hsc, f1, f2, hiv, hOl, cSp3_at, spRTarget_mv, hT, spSpW_mv, hW, spNum13_mv, spNum13_fn, htq, hql, hl1, c6, c7, hWq, spClosed_mv, hCq, z16, List.replicate, List.length_map]
      repeat' ((first | (refine AG_of ?_ ?_ <;> intro h) | (refine AB_of ?_ ?_ <;> intro h) | (refine A_draw_of [] [] (by kernel_rfl) ?_ <;> have h := mark)) <;> simp only [go_sem, seval, eq_self, reduceCtorEq, Prg.v, hsc, f1, f2, hiv, hOl, cSp3_at, spRTarget_mv, hT, spSpW_mv, hW, spNum13_mv, spNum13_fn, htq, hql, hl1, c6, c7, hWq, spClosed_mv, hCq, z16, List.replicate, List.length_map, h])
      all_goals (first | refine fin_ret ?_ | refine fin_normal ?_)
      all_goals simp only [resOf, Try.results5, Try.ntmps5, go_sem, seval, eq_self, reduceCtorEq]
    · have c6 : decide (0 ≤ tg) = false := by simp; omega
      simp only [go_sem, seval, eq_self, reduceCtorEq, Prg.v, hsc, f1, f2, hiv, hOl, cSp3_at, spRTarget_mv, hT, spSpW_mv, hW, spNum13_mv, spNum13_fn, htq, hql, hl1, c6, hWq, spClosed_mv, hCq, z16, List.replicate, List.length_map]
      repeat' ((first | (refine AG_of ?_ ?_ <;> intro h) | (refine AB_of ?_ ?_ <;> intro h) | (refine A_draw_of [] [] (by kernel_rfl) ?_ <;> have h := mark)) <;> simp only [go_sem, seval, eq_self, reduceCtorEq, Prg.v, hsc, f1, f2, hiv, hOl, cSp3_at, spRTarget_mv, hT, spSpW_mv, hW, spNum13_mv, spNum13_fn, htq, hql, hl1, c6, hWq, spClosed_mv, hCq, z16, List.replicate, List.length_map, h])
      all_goals (first | refine fin_ret ?_ | refine fin_normal ?_)
      all_goals simp only [resOf, Try.results5, Try.ntmps5, go_sem, seval, eq_self, reduceCtorEq]
  rw [swV_ok c8] at hWq
  have hrq := closed_right c8
  obtain ⟨s1, s2⟩ := behind_split c2 hrq (behind_right c2 hrq (by rw [hto]; exact hno)) hx8 q
  have hl2 := splitL_len (bothP p (oneP p i)) q
  rw [s1] at hl2
  have w3 : IntKind.i64.wrap (((cutL p).length : Int) + 1) = (((cutL p).length + 1 : Nat) : Int) := by rw [w_i64 (by omega) (by omega)]; omega
  have zN := Int.natCast_nonneg (cutL p).length
  have hNN : ((cutL p).length : Int) ≤ (((cutL p).length + 1 : Nat) : Int) := by omega
  have htk : List.take (cutL p).length (List.map SB.v (splitL (bothP p (oneP p i)) q)) = List.map SB.v (splitL p q) := by rw [← List.map_take, s2]
  have hS := spSameS_v (splOf_v false (splitL p q) hql) (splOf_v false (splitL p q) hql) (splitL_fit c2 q) (splitL_fit c2 q)
  rw [show decide ((⟨splitL p q, q⟩ : Spl) = ⟨splitL p q, q⟩) = true by simp] at hS
  by_cases h6 : 0 ≤ tg
  · have c6 : decide (0 ≤ tg) = true := by simp; omega
    have c7 : decide (tg < (p.code.length : Int)) = false := by simp; omega
    simp only [go_sem, seval, eq_self, reduceCtorEq, Prg.v, hsc, f1, f2, hiv, hOl, cSp3_at, spRTarget_mv, hT, spSpW_mv, hW, spNum13_mv, spNum13_fn, htq, hql, hl1, c6, c7, hWq, hl2, w3, zN, hNN, htk, spSameS_mv, hS, bne_self_eq_false, z16, List.replicate, List.drop_zero, Nat.sub_zero, Int.toNat_natCast, Int.toNat_zero, List.length_map]
    repeat' ((first | (refine AG_of ?_ ?_ <;> intro h) | (refine AB_of ?_ ?_ <;> intro h) | (refine A_draw_of [] [] (by kernel_rfl) ?_ <;> have h := mark)) <;> simp only [go_sem, seval, eq_self, reduceCtorEq, Prg.v, hsc, f1, f2, hiv, hOl, cSp3_at, spRTarget_mv, hT, spSpW_mv, hW, spNum13_mv, spNum13_fn, htq, hql, hl1, c6, c7, hWq, hl2, w3, zN, hNN, htk, spSameS_mv, hS, bne_self_eq_false, z16, List.replicate, List.drop_zero, Nat.sub_zero, Int.toNat_natCast, Int.toNat_zero, List.length_map, h])
    all_goals (first | refine fin_ret ?_ | refine fin_normal ?_)
    all_goals simp only [resOf, Try.results5, Try.ntmps5, go_sem, seval, eq_self, reduceCtorEq]
  · have c6 : decide (0 ≤ tg) = false := by simp; omega
    simp only [go_sem, seval, eq_self, reduceCtorEq, Prg.v, hsc, f1, f2, hiv, hOl, cSp3_at, spRTarget_mv, hT, spSpW_mv, hW, spNum13_mv, spNum13_fn, htq, hql, hl1, c6, hWq, hl2, w3, zN, hNN, htk, spSameS_mv, hS, bne_self_eq_false, z16, List.replicate, List.drop_zero, Nat.sub_zero, Int.toNat_natCast, Int.toNat_zero, List.length_map]
    repeat' ((first | (refine AG_of ?_ ?_ <;> intro h) | (refine AB_of ?_ ?_ <;> intro h) | (refine A_draw_of [] [] (by kernel_rfl) ?_ <;> have h := mark)) <;> simp only [go_sem, seval, eq_self, reduceCtorEq, Prg.v, hsc, f1, f2, hiv, hOl, cSp3_at, spRTarget_mv, hT, spSpW_mv, hW, spNum13_mv, spNum13_fn, htq, hql, hl1, c6, hWq, hl2, w3, zN, hNN, htk, spSameS_mv, hS, bne_self_eq_false, z16, List.replicate, List.drop_zero, Nat.sub_zero, Int.toNat_natCast, Int.toNat_zero, List.length_map, h])
    all_goals (first | refine fin_ret ?_ | refine fin_normal ?_)
    all_goals simp only [resOf, Try.results5, Try.ntmps5, go_sem, seval, eq_self, reduceCtorEq]
theorem sbeh_ok {x y : V} (h : ∃ p, prgOf x = some p ∧ p.data.all byte = true ∧ (∀ i ∈ p.code, WfI i) ∧ p.code.length ≤ maxLen ∧ p.data.length ≤ maxLen) (k : ∃ i, insOf y = some i ∧ WfI i) (a : Int) : spSBeh.fn [x, y, .s (.int .i64 a)] = some (.s (.bool true)) := by
  obtain ⟨p, hp, _⟩ := h
  obtain ⟨i, hi, _⟩ := k
  obtain rfl := insOf_eq hi
  simp only [spSBeh, Ins.v, hp, Option.bind_some]
end Go.Proofs.Ytalcmfmhifcaeaa
