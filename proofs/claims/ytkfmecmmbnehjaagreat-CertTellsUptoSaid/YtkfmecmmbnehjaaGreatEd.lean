/-
Which cells an instruction has: emit.E by the plain reckoning. No condition.
-/
import Derived.Test.YtkfmecmmbnehjaaGreatEc
namespace Go.Proofs.YtkfmecmmbnehjaaGreat
set_option linter.unusedSimpArgs false
set_option linter.unusedVariables false

def spE : Spec := ⟨[], fun xs => match xs with
  | [.agg [.s (.int .i64 op), .s (.int .i64 d), .s (.int .i64 a), .s (.int .i64 b), .s (.int .i64 imm)], y, .s (.int .i64 pc), .s (.int .i64 off)] => (ownOf y).bind fun o => some (ownC (eCells ⟨op, d, a, b, imm⟩ o pc off))
  | _ => none⟩
theorem spE_v {o : List Int} (ho : o.length = 16) (op d a b imm pc off : Int) : spE.fn [.agg [.s (.int .i64 op), .s (.int .i64 d), .s (.int .i64 a), .s (.int .i64 b), .s (.int .i64 imm)], .agg (o.map iv), .s (.int .i64 pc), .s (.int .i64 off)] = some (ownC (eCells ⟨op, d, a, b, imm⟩ o pc off)) := by
  have : ownOf (.agg (o.map iv)) = some o := ownOf_v ho
  simp only [spE, this, Option.bind_some]
set_option maxHeartbeats 8000000 in
theorem emitE_impl : Impl Tryz.prog 50 spE := by
  refine impl_walk mixed cE4_ok eqT_ok Tryz.func50 rfl Tryz.ntmps50 (by kernel_rfl) ?_
  intro xs r h
  unfold spE at h
  simp only at h
  (try split at h) <;> try (cases (show none = some r from h); done)
  rename_i op d a b imm y pc off
  obtain ⟨o, ho, h2⟩ := Option.bind_eq_some_iff.1 h
  clear h
  cases h2
  obtain ⟨rfl, hlen⟩ := ownOf_eq ho
  clear ho
  refine ⟨by simp [ownV], ?_⟩
  cases c1 : rightB ⟨op, d, a, b, imm⟩
  · have e : eCells ⟨op, d, a, b, imm⟩ o pc off = [] := by simp [eCells, c1]
    rw [e]
    simp only [go_sem, seval, eq_self, reduceCtorEq, cE4_at, spRight_mv, spRight_fn, spForm_mv, spForm_fn, spOn_mv, spSide_mv, spOnA_mv, spSent_mv, spMIns_mv, spMReg_mv, spMBare_mv, spMRegs_mv, mIns_0, mIns_1, mIns_2, mReg_0, mReg_1, mBare_0, mBare_1, mBare_2, mRegs_0, mRegs_1, mRegs_2, c1, ownV]
    repeat' ((first | (refine AG_of ?_ ?_ <;> intro h) | (refine AB_of ?_ ?_ <;> intro h) | (refine A_draw_of [] [] (by kernel_rfl) ?_ <;> have h := mark)) <;> simp only [go_sem, seval, eq_self, reduceCtorEq, cE4_at, spRight_mv, spRight_fn, spForm_mv, spForm_fn, spOn_mv, spSide_mv, spOnA_mv, spSent_mv, spMIns_mv, spMReg_mv, spMBare_mv, spMRegs_mv, mIns_0, mIns_1, mIns_2, mReg_0, mReg_1, mBare_0, mBare_1, mBare_2, mRegs_0, mRegs_1, mRegs_2, c1, ownV, h])
    all_goals (first | refine fin_ret ?_ | refine fin_normal ?_)
    all_goals simp only [resOf, Tryz.results50, Tryz.ntmps50, go_sem, seval, eq_self, reduceCtorEq, ownC]
  have ht := take_iv hlen
  have hOD := spOn_v hlen d
  have hOB := spOn_v hlen b
  have hSd := side_v hlen op d a b imm
  have hEA := spOnA_v hlen op d a b imm
  have hsl := sent_len ⟨op, d, a, b, imm⟩ o
  have hS := spSent_v hlen op d a b imm
  obtain ⟨s, hs⟩ : ∃ s, sentL ⟨op, d, a, b, imm⟩ o = s := ⟨_, rfl⟩
  rw [hs] at hsl hS
  have hfs := form_cases c1
  simp only at hfs
  rcases hfs with hf | hf | hf | hf | hf | hf | hf | hf
  · cases b1 : (sideI ⟨op, d, a, b, imm⟩ o == 1)
    · have p1 : ¬ sideI ⟨op, d, a, b, imm⟩ o = 1 := by simpa using b1
      have q1 : (sideI ⟨op, d, a, b, imm⟩ o != 1) = true := by simp [p1]
      match s, hsl, hS, hs with
      | [], _, hS, hs =>
        simp only [List.map_cons, List.map_nil, ownOr, List.isEmpty_nil, List.isEmpty_cons, if_true, if_false, Bool.false_eq_true, iv] at hS
        have e : eCells ⟨op, d, a, b, imm⟩ o pc off = [cI 1 ⟨op, d, a, b, imm⟩ pc off] := by simp [eCells, c1, hf, b1, p1, q1, hs]
        rw [e]
        simp only [go_sem, seval, eq_self, reduceCtorEq, cE4_at, spRight_mv, spRight_fn, spForm_mv, spForm_fn, spOn_mv, spSide_mv, spOnA_mv, spSent_mv, spMIns_mv, spMReg_mv, spMBare_mv, spMRegs_mv, mIns_0, mIns_1, mIns_2, mReg_0, mReg_1, mBare_0, mBare_1, mBare_2, mRegs_0, mRegs_1, mRegs_2, c1, hf, hOD, hOB, hSd, hEA, hS, ht, hlen, List.length_map, nest, ownV, c1, hf, b1, p1, q1, hs]
        repeat' ((first | (refine AG_of ?_ ?_ <;> intro h) | (refine AB_of ?_ ?_ <;> intro h) | (refine A_draw_of [] [] (by kernel_rfl) ?_ <;> have h := mark)) <;> simp only [go_sem, seval, eq_self, reduceCtorEq, cE4_at, spRight_mv, spRight_fn, spForm_mv, spForm_fn, spOn_mv, spSide_mv, spOnA_mv, spSent_mv, spMIns_mv, spMReg_mv, spMBare_mv, spMRegs_mv, mIns_0, mIns_1, mIns_2, mReg_0, mReg_1, mBare_0, mBare_1, mBare_2, mRegs_0, mRegs_1, mRegs_2, c1, hf, hOD, hOB, hSd, hEA, hS, ht, hlen, List.length_map, nest, ownV, c1, hf, b1, p1, q1, hs, h])
        all_goals (first | refine fin_ret ?_ | refine fin_normal ?_)
        all_goals simp only [resOf, Tryz.results50, Tryz.ntmps50, go_sem, seval, eq_self, reduceCtorEq, nest, ownC, cI, cR, cB, insZ, Cell.v]
      | [r], _, hS, hs =>
        simp only [List.map_cons, List.map_nil, ownOr, List.isEmpty_nil, List.isEmpty_cons, if_true, if_false, Bool.false_eq_true, iv] at hS
        have e : eCells ⟨op, d, a, b, imm⟩ o pc off = [cR 6 r pc off, cI 1 ⟨op, d, a, b, imm⟩ pc off] := by simp [eCells, c1, hf, b1, p1, q1, hs]
        rw [e]
        simp only [go_sem, seval, eq_self, reduceCtorEq, cE4_at, spRight_mv, spRight_fn, spForm_mv, spForm_fn, spOn_mv, spSide_mv, spOnA_mv, spSent_mv, spMIns_mv, spMReg_mv, spMBare_mv, spMRegs_mv, mIns_0, mIns_1, mIns_2, mReg_0, mReg_1, mBare_0, mBare_1, mBare_2, mRegs_0, mRegs_1, mRegs_2, c1, hf, hOD, hOB, hSd, hEA, hS, ht, hlen, List.length_map, nest, ownV, c1, hf, b1, p1, q1, hs]
        repeat' ((first | (refine AG_of ?_ ?_ <;> intro h) | (refine AB_of ?_ ?_ <;> intro h) | (refine A_draw_of [] [] (by kernel_rfl) ?_ <;> have h := mark)) <;> simp only [go_sem, seval, eq_self, reduceCtorEq, cE4_at, spRight_mv, spRight_fn, spForm_mv, spForm_fn, spOn_mv, spSide_mv, spOnA_mv, spSent_mv, spMIns_mv, spMReg_mv, spMBare_mv, spMRegs_mv, mIns_0, mIns_1, mIns_2, mReg_0, mReg_1, mBare_0, mBare_1, mBare_2, mRegs_0, mRegs_1, mRegs_2, c1, hf, hOD, hOB, hSd, hEA, hS, ht, hlen, List.length_map, nest, ownV, c1, hf, b1, p1, q1, hs, h])
        all_goals (first | refine fin_ret ?_ | refine fin_normal ?_)
        all_goals simp only [resOf, Tryz.results50, Tryz.ntmps50, go_sem, seval, eq_self, reduceCtorEq, nest, ownC, cI, cR, cB, insZ, Cell.v]
      | [r, r'], _, hS, hs =>
        simp only [List.map_cons, List.map_nil, ownOr, List.isEmpty_nil, List.isEmpty_cons, if_true, if_false, Bool.false_eq_true, iv] at hS
        have e : eCells ⟨op, d, a, b, imm⟩ o pc off = [cR 6 r pc off, cR 6 r' pc off, cI 1 ⟨op, d, a, b, imm⟩ pc off] := by simp [eCells, c1, hf, b1, p1, q1, hs]
        rw [e]
        simp only [go_sem, seval, eq_self, reduceCtorEq, cE4_at, spRight_mv, spRight_fn, spForm_mv, spForm_fn, spOn_mv, spSide_mv, spOnA_mv, spSent_mv, spMIns_mv, spMReg_mv, spMBare_mv, spMRegs_mv, mIns_0, mIns_1, mIns_2, mReg_0, mReg_1, mBare_0, mBare_1, mBare_2, mRegs_0, mRegs_1, mRegs_2, c1, hf, hOD, hOB, hSd, hEA, hS, ht, hlen, List.length_map, nest, ownV, c1, hf, b1, p1, q1, hs]
        repeat' ((first | (refine AG_of ?_ ?_ <;> intro h) | (refine AB_of ?_ ?_ <;> intro h) | (refine A_draw_of [] [] (by kernel_rfl) ?_ <;> have h := mark)) <;> simp only [go_sem, seval, eq_self, reduceCtorEq, cE4_at, spRight_mv, spRight_fn, spForm_mv, spForm_fn, spOn_mv, spSide_mv, spOnA_mv, spSent_mv, spMIns_mv, spMReg_mv, spMBare_mv, spMRegs_mv, mIns_0, mIns_1, mIns_2, mReg_0, mReg_1, mBare_0, mBare_1, mBare_2, mRegs_0, mRegs_1, mRegs_2, c1, hf, hOD, hOB, hSd, hEA, hS, ht, hlen, List.length_map, nest, ownV, c1, hf, b1, p1, q1, hs, h])
        all_goals (first | refine fin_ret ?_ | refine fin_normal ?_)
        all_goals simp only [resOf, Tryz.results50, Tryz.ntmps50, go_sem, seval, eq_self, reduceCtorEq, nest, ownC, cI, cR, cB, insZ, Cell.v]
    · have p1 : sideI ⟨op, d, a, b, imm⟩ o = 1 := by simpa using b1
      have q1 : (sideI ⟨op, d, a, b, imm⟩ o != 1) = false := by simp [p1]
      have e : eCells ⟨op, d, a, b, imm⟩ o pc off = [] := by simp [eCells, c1, hf, b1, p1, q1]
      rw [e]
      simp only [go_sem, seval, eq_self, reduceCtorEq, cE4_at, spRight_mv, spRight_fn, spForm_mv, spForm_fn, spOn_mv, spSide_mv, spOnA_mv, spSent_mv, spMIns_mv, spMReg_mv, spMBare_mv, spMRegs_mv, mIns_0, mIns_1, mIns_2, mReg_0, mReg_1, mBare_0, mBare_1, mBare_2, mRegs_0, mRegs_1, mRegs_2, c1, hf, hOD, hOB, hSd, hEA, hS, ht, hlen, List.length_map, nest, ownV, c1, hf, b1, p1, q1]
      repeat' ((first | (refine AG_of ?_ ?_ <;> intro h) | (refine AB_of ?_ ?_ <;> intro h) | (refine A_draw_of [] [] (by kernel_rfl) ?_ <;> have h := mark)) <;> simp only [go_sem, seval, eq_self, reduceCtorEq, cE4_at, spRight_mv, spRight_fn, spForm_mv, spForm_fn, spOn_mv, spSide_mv, spOnA_mv, spSent_mv, spMIns_mv, spMReg_mv, spMBare_mv, spMRegs_mv, mIns_0, mIns_1, mIns_2, mReg_0, mReg_1, mBare_0, mBare_1, mBare_2, mRegs_0, mRegs_1, mRegs_2, c1, hf, hOD, hOB, hSd, hEA, hS, ht, hlen, List.length_map, nest, ownV, c1, hf, b1, p1, q1, h])
      all_goals (first | refine fin_ret ?_ | refine fin_normal ?_)
      all_goals simp only [resOf, Tryz.results50, Tryz.ntmps50, go_sem, seval, eq_self, reduceCtorEq, nest, ownC, cI, cR, cB, insZ, Cell.v]
  · cases b1 : (sideI ⟨op, d, a, b, imm⟩ o == 1)
    · have p1 : ¬ sideI ⟨op, d, a, b, imm⟩ o = 1 := by simpa using b1
      have q1 : (sideI ⟨op, d, a, b, imm⟩ o != 1) = true := by simp [p1]
      match s, hsl, hS, hs with
      | [], _, hS, hs =>
        simp only [List.map_cons, List.map_nil, ownOr, List.isEmpty_nil, List.isEmpty_cons, if_true, if_false, Bool.false_eq_true, iv] at hS
        have e : eCells ⟨op, d, a, b, imm⟩ o pc off = [cI 1 ⟨op, d, a, b, imm⟩ pc off] := by simp [eCells, c1, hf, b1, p1, q1, hs]
        rw [e]
        simp only [go_sem, seval, eq_self, reduceCtorEq, cE4_at, spRight_mv, spRight_fn, spForm_mv, spForm_fn, spOn_mv, spSide_mv, spOnA_mv, spSent_mv, spMIns_mv, spMReg_mv, spMBare_mv, spMRegs_mv, mIns_0, mIns_1, mIns_2, mReg_0, mReg_1, mBare_0, mBare_1, mBare_2, mRegs_0, mRegs_1, mRegs_2, c1, hf, hOD, hOB, hSd, hEA, hS, ht, hlen, List.length_map, nest, ownV, c1, hf, b1, p1, q1, hs]
        repeat' ((first | (refine AG_of ?_ ?_ <;> intro h) | (refine AB_of ?_ ?_ <;> intro h) | (refine A_draw_of [] [] (by kernel_rfl) ?_ <;> have h := mark)) <;> simp only [go_sem, seval, eq_self, reduceCtorEq, cE4_at, spRight_mv, spRight_fn, spForm_mv, spForm_fn, spOn_mv, spSide_mv, spOnA_mv, spSent_mv, spMIns_mv, spMReg_mv, spMBare_mv, spMRegs_mv, mIns_0, mIns_1, mIns_2, mReg_0, mReg_1, mBare_0, mBare_1, mBare_2, mRegs_0, mRegs_1, mRegs_2, c1, hf, hOD, hOB, hSd, hEA, hS, ht, hlen, List.length_map, nest, ownV, c1, hf, b1, p1, q1, hs, h])
        all_goals (first | refine fin_ret ?_ | refine fin_normal ?_)
        all_goals simp only [resOf, Tryz.results50, Tryz.ntmps50, go_sem, seval, eq_self, reduceCtorEq, nest, ownC, cI, cR, cB, insZ, Cell.v]
      | [r], _, hS, hs =>
        simp only [List.map_cons, List.map_nil, ownOr, List.isEmpty_nil, List.isEmpty_cons, if_true, if_false, Bool.false_eq_true, iv] at hS
        have e : eCells ⟨op, d, a, b, imm⟩ o pc off = [cR 6 r pc off, cI 1 ⟨op, d, a, b, imm⟩ pc off] := by simp [eCells, c1, hf, b1, p1, q1, hs]
        rw [e]
        simp only [go_sem, seval, eq_self, reduceCtorEq, cE4_at, spRight_mv, spRight_fn, spForm_mv, spForm_fn, spOn_mv, spSide_mv, spOnA_mv, spSent_mv, spMIns_mv, spMReg_mv, spMBare_mv, spMRegs_mv, mIns_0, mIns_1, mIns_2, mReg_0, mReg_1, mBare_0, mBare_1, mBare_2, mRegs_0, mRegs_1, mRegs_2, c1, hf, hOD, hOB, hSd, hEA, hS, ht, hlen, List.length_map, nest, ownV, c1, hf, b1, p1, q1, hs]
        repeat' ((first | (refine AG_of ?_ ?_ <;> intro h) | (refine AB_of ?_ ?_ <;> intro h) | (refine A_draw_of [] [] (by kernel_rfl) ?_ <;> have h := mark)) <;> simp only [go_sem, seval, eq_self, reduceCtorEq, cE4_at, spRight_mv, spRight_fn, spForm_mv, spForm_fn, spOn_mv, spSide_mv, spOnA_mv, spSent_mv, spMIns_mv, spMReg_mv, spMBare_mv, spMRegs_mv, mIns_0, mIns_1, mIns_2, mReg_0, mReg_1, mBare_0, mBare_1, mBare_2, mRegs_0, mRegs_1, mRegs_2, c1, hf, hOD, hOB, hSd, hEA, hS, ht, hlen, List.length_map, nest, ownV, c1, hf, b1, p1, q1, hs, h])
        all_goals (first | refine fin_ret ?_ | refine fin_normal ?_)
        all_goals simp only [resOf, Tryz.results50, Tryz.ntmps50, go_sem, seval, eq_self, reduceCtorEq, nest, ownC, cI, cR, cB, insZ, Cell.v]
      | [r, r'], _, hS, hs =>
        simp only [List.map_cons, List.map_nil, ownOr, List.isEmpty_nil, List.isEmpty_cons, if_true, if_false, Bool.false_eq_true, iv] at hS
        have e : eCells ⟨op, d, a, b, imm⟩ o pc off = [cR 6 r pc off, cR 6 r' pc off, cI 1 ⟨op, d, a, b, imm⟩ pc off] := by simp [eCells, c1, hf, b1, p1, q1, hs]
        rw [e]
        simp only [go_sem, seval, eq_self, reduceCtorEq, cE4_at, spRight_mv, spRight_fn, spForm_mv, spForm_fn, spOn_mv, spSide_mv, spOnA_mv, spSent_mv, spMIns_mv, spMReg_mv, spMBare_mv, spMRegs_mv, mIns_0, mIns_1, mIns_2, mReg_0, mReg_1, mBare_0, mBare_1, mBare_2, mRegs_0, mRegs_1, mRegs_2, c1, hf, hOD, hOB, hSd, hEA, hS, ht, hlen, List.length_map, nest, ownV, c1, hf, b1, p1, q1, hs]
        repeat' ((first | (refine AG_of ?_ ?_ <;> intro h) | (refine AB_of ?_ ?_ <;> intro h) | (refine A_draw_of [] [] (by kernel_rfl) ?_ <;> have h := mark)) <;> simp only [go_sem, seval, eq_self, reduceCtorEq, cE4_at, spRight_mv, spRight_fn, spForm_mv, spForm_fn, spOn_mv, spSide_mv, spOnA_mv, spSent_mv, spMIns_mv, spMReg_mv, spMBare_mv, spMRegs_mv, mIns_0, mIns_1, mIns_2, mReg_0, mReg_1, mBare_0, mBare_1, mBare_2, mRegs_0, mRegs_1, mRegs_2, c1, hf, hOD, hOB, hSd, hEA, hS, ht, hlen, List.length_map, nest, ownV, c1, hf, b1, p1, q1, hs, h])
        all_goals (first | refine fin_ret ?_ | refine fin_normal ?_)
        all_goals simp only [resOf, Tryz.results50, Tryz.ntmps50, go_sem, seval, eq_self, reduceCtorEq, nest, ownC, cI, cR, cB, insZ, Cell.v]
    · have p1 : sideI ⟨op, d, a, b, imm⟩ o = 1 := by simpa using b1
      have q1 : (sideI ⟨op, d, a, b, imm⟩ o != 1) = false := by simp [p1]
      have e : eCells ⟨op, d, a, b, imm⟩ o pc off = [] := by simp [eCells, c1, hf, b1, p1, q1]
      rw [e]
      simp only [go_sem, seval, eq_self, reduceCtorEq, cE4_at, spRight_mv, spRight_fn, spForm_mv, spForm_fn, spOn_mv, spSide_mv, spOnA_mv, spSent_mv, spMIns_mv, spMReg_mv, spMBare_mv, spMRegs_mv, mIns_0, mIns_1, mIns_2, mReg_0, mReg_1, mBare_0, mBare_1, mBare_2, mRegs_0, mRegs_1, mRegs_2, c1, hf, hOD, hOB, hSd, hEA, hS, ht, hlen, List.length_map, nest, ownV, c1, hf, b1, p1, q1]
      repeat' ((first | (refine AG_of ?_ ?_ <;> intro h) | (refine AB_of ?_ ?_ <;> intro h) | (refine A_draw_of [] [] (by kernel_rfl) ?_ <;> have h := mark)) <;> simp only [go_sem, seval, eq_self, reduceCtorEq, cE4_at, spRight_mv, spRight_fn, spForm_mv, spForm_fn, spOn_mv, spSide_mv, spOnA_mv, spSent_mv, spMIns_mv, spMReg_mv, spMBare_mv, spMRegs_mv, mIns_0, mIns_1, mIns_2, mReg_0, mReg_1, mBare_0, mBare_1, mBare_2, mRegs_0, mRegs_1, mRegs_2, c1, hf, hOD, hOB, hSd, hEA, hS, ht, hlen, List.length_map, nest, ownV, c1, hf, b1, p1, q1, h])
      all_goals (first | refine fin_ret ?_ | refine fin_normal ?_)
      all_goals simp only [resOf, Tryz.results50, Tryz.ntmps50, go_sem, seval, eq_self, reduceCtorEq, nest, ownC, cI, cR, cB, insZ, Cell.v]
  · cases b1 : (sideI ⟨op, d, a, b, imm⟩ o == 1)
    · have p1 : ¬ sideI ⟨op, d, a, b, imm⟩ o = 1 := by simpa using b1
      have q1 : (sideI ⟨op, d, a, b, imm⟩ o != 1) = true := by simp [p1]
      match s, hsl, hS, hs with
      | [], _, hS, hs =>
        simp only [List.map_cons, List.map_nil, ownOr, List.isEmpty_nil, List.isEmpty_cons, if_true, if_false, Bool.false_eq_true, iv] at hS
        have e : eCells ⟨op, d, a, b, imm⟩ o pc off = [cI 1 ⟨op, d, a, b, imm⟩ pc off] := by simp [eCells, c1, hf, b1, p1, q1, hs]
        rw [e]
        simp only [go_sem, seval, eq_self, reduceCtorEq, cE4_at, spRight_mv, spRight_fn, spForm_mv, spForm_fn, spOn_mv, spSide_mv, spOnA_mv, spSent_mv, spMIns_mv, spMReg_mv, spMBare_mv, spMRegs_mv, mIns_0, mIns_1, mIns_2, mReg_0, mReg_1, mBare_0, mBare_1, mBare_2, mRegs_0, mRegs_1, mRegs_2, c1, hf, hOD, hOB, hSd, hEA, hS, ht, hlen, List.length_map, nest, ownV, c1, hf, b1, p1, q1, hs]
        repeat' ((first | (refine AG_of ?_ ?_ <;> intro h) | (refine AB_of ?_ ?_ <;> intro h) | (refine A_draw_of [] [] (by kernel_rfl) ?_ <;> have h := mark)) <;> simp only [go_sem, seval, eq_self, reduceCtorEq, cE4_at, spRight_mv, spRight_fn, spForm_mv, spForm_fn, spOn_mv, spSide_mv, spOnA_mv, spSent_mv, spMIns_mv, spMReg_mv, spMBare_mv, spMRegs_mv, mIns_0, mIns_1, mIns_2, mReg_0, mReg_1, mBare_0, mBare_1, mBare_2, mRegs_0, mRegs_1, mRegs_2, c1, hf, hOD, hOB, hSd, hEA, hS, ht, hlen, List.length_map, nest, ownV, c1, hf, b1, p1, q1, hs, h])
        all_goals (first | refine fin_ret ?_ | refine fin_normal ?_)
        all_goals simp only [resOf, Tryz.results50, Tryz.ntmps50, go_sem, seval, eq_self, reduceCtorEq, nest, ownC, cI, cR, cB, insZ, Cell.v]
      | [r], _, hS, hs =>
        simp only [List.map_cons, List.map_nil, ownOr, List.isEmpty_nil, List.isEmpty_cons, if_true, if_false, Bool.false_eq_true, iv] at hS
        have e : eCells ⟨op, d, a, b, imm⟩ o pc off = [cR 6 r pc off, cI 1 ⟨op, d, a, b, imm⟩ pc off] := by simp [eCells, c1, hf, b1, p1, q1, hs]
        rw [e]
        simp only [go_sem, seval, eq_self, reduceCtorEq, cE4_at, spRight_mv, spRight_fn, spForm_mv, spForm_fn, spOn_mv, spSide_mv, spOnA_mv, spSent_mv, spMIns_mv, spMReg_mv, spMBare_mv, spMRegs_mv, mIns_0, mIns_1, mIns_2, mReg_0, mReg_1, mBare_0, mBare_1, mBare_2, mRegs_0, mRegs_1, mRegs_2, c1, hf, hOD, hOB, hSd, hEA, hS, ht, hlen, List.length_map, nest, ownV, c1, hf, b1, p1, q1, hs]
        repeat' ((first | (refine AG_of ?_ ?_ <;> intro h) | (refine AB_of ?_ ?_ <;> intro h) | (refine A_draw_of [] [] (by kernel_rfl) ?_ <;> have h := mark)) <;> simp only [go_sem, seval, eq_self, reduceCtorEq, cE4_at, spRight_mv, spRight_fn, spForm_mv, spForm_fn, spOn_mv, spSide_mv, spOnA_mv, spSent_mv, spMIns_mv, spMReg_mv, spMBare_mv, spMRegs_mv, mIns_0, mIns_1, mIns_2, mReg_0, mReg_1, mBare_0, mBare_1, mBare_2, mRegs_0, mRegs_1, mRegs_2, c1, hf, hOD, hOB, hSd, hEA, hS, ht, hlen, List.length_map, nest, ownV, c1, hf, b1, p1, q1, hs, h])
        all_goals (first | refine fin_ret ?_ | refine fin_normal ?_)
        all_goals simp only [resOf, Tryz.results50, Tryz.ntmps50, go_sem, seval, eq_self, reduceCtorEq, nest, ownC, cI, cR, cB, insZ, Cell.v]
      | [r, r'], _, hS, hs =>
        simp only [List.map_cons, List.map_nil, ownOr, List.isEmpty_nil, List.isEmpty_cons, if_true, if_false, Bool.false_eq_true, iv] at hS
        have e : eCells ⟨op, d, a, b, imm⟩ o pc off = [cR 6 r pc off, cR 6 r' pc off, cI 1 ⟨op, d, a, b, imm⟩ pc off] := by simp [eCells, c1, hf, b1, p1, q1, hs]
        rw [e]
        simp only [go_sem, seval, eq_self, reduceCtorEq, cE4_at, spRight_mv, spRight_fn, spForm_mv, spForm_fn, spOn_mv, spSide_mv, spOnA_mv, spSent_mv, spMIns_mv, spMReg_mv, spMBare_mv, spMRegs_mv, mIns_0, mIns_1, mIns_2, mReg_0, mReg_1, mBare_0, mBare_1, mBare_2, mRegs_0, mRegs_1, mRegs_2, c1, hf, hOD, hOB, hSd, hEA, hS, ht, hlen, List.length_map, nest, ownV, c1, hf, b1, p1, q1, hs]
        repeat' ((first | (refine AG_of ?_ ?_ <;> intro h) | (refine AB_of ?_ ?_ <;> intro h) | (refine A_draw_of [] [] (by kernel_rfl) ?_ <;> have h := mark)) <;> simp only [go_sem, seval, eq_self, reduceCtorEq, cE4_at, spRight_mv, spRight_fn, spForm_mv, spForm_fn, spOn_mv, spSide_mv, spOnA_mv, spSent_mv, spMIns_mv, spMReg_mv, spMBare_mv, spMRegs_mv, mIns_0, mIns_1, mIns_2, mReg_0, mReg_1, mBare_0, mBare_1, mBare_2, mRegs_0, mRegs_1, mRegs_2, c1, hf, hOD, hOB, hSd, hEA, hS, ht, hlen, List.length_map, nest, ownV, c1, hf, b1, p1, q1, hs, h])
        all_goals (first | refine fin_ret ?_ | refine fin_normal ?_)
        all_goals simp only [resOf, Tryz.results50, Tryz.ntmps50, go_sem, seval, eq_self, reduceCtorEq, nest, ownC, cI, cR, cB, insZ, Cell.v]
    · have p1 : sideI ⟨op, d, a, b, imm⟩ o = 1 := by simpa using b1
      have q1 : (sideI ⟨op, d, a, b, imm⟩ o != 1) = false := by simp [p1]
      have e : eCells ⟨op, d, a, b, imm⟩ o pc off = [] := by simp [eCells, c1, hf, b1, p1, q1]
      rw [e]
      simp only [go_sem, seval, eq_self, reduceCtorEq, cE4_at, spRight_mv, spRight_fn, spForm_mv, spForm_fn, spOn_mv, spSide_mv, spOnA_mv, spSent_mv, spMIns_mv, spMReg_mv, spMBare_mv, spMRegs_mv, mIns_0, mIns_1, mIns_2, mReg_0, mReg_1, mBare_0, mBare_1, mBare_2, mRegs_0, mRegs_1, mRegs_2, c1, hf, hOD, hOB, hSd, hEA, hS, ht, hlen, List.length_map, nest, ownV, c1, hf, b1, p1, q1]
      repeat' ((first | (refine AG_of ?_ ?_ <;> intro h) | (refine AB_of ?_ ?_ <;> intro h) | (refine A_draw_of [] [] (by kernel_rfl) ?_ <;> have h := mark)) <;> simp only [go_sem, seval, eq_self, reduceCtorEq, cE4_at, spRight_mv, spRight_fn, spForm_mv, spForm_fn, spOn_mv, spSide_mv, spOnA_mv, spSent_mv, spMIns_mv, spMReg_mv, spMBare_mv, spMRegs_mv, mIns_0, mIns_1, mIns_2, mReg_0, mReg_1, mBare_0, mBare_1, mBare_2, mRegs_0, mRegs_1, mRegs_2, c1, hf, hOD, hOB, hSd, hEA, hS, ht, hlen, List.length_map, nest, ownV, c1, hf, b1, p1, q1, h])
      all_goals (first | refine fin_ret ?_ | refine fin_normal ?_)
      all_goals simp only [resOf, Tryz.results50, Tryz.ntmps50, go_sem, seval, eq_self, reduceCtorEq, nest, ownC, cI, cR, cB, insZ, Cell.v]
  · cases b1 : (onI o d == 2)
    · have p1 : ¬ onI o d = 2 := by simpa using b1
      have e : eCells ⟨op, d, a, b, imm⟩ o pc off = [] := by simp [eCells, c1, hf, b1, p1]
      rw [e]
      simp only [go_sem, seval, eq_self, reduceCtorEq, cE4_at, spRight_mv, spRight_fn, spForm_mv, spForm_fn, spOn_mv, spSide_mv, spOnA_mv, spSent_mv, spMIns_mv, spMReg_mv, spMBare_mv, spMRegs_mv, mIns_0, mIns_1, mIns_2, mReg_0, mReg_1, mBare_0, mBare_1, mBare_2, mRegs_0, mRegs_1, mRegs_2, c1, hf, hOD, hOB, hSd, hEA, hS, ht, hlen, List.length_map, nest, ownV, c1, hf, b1, p1]
      repeat' ((first | (refine AG_of ?_ ?_ <;> intro h) | (refine AB_of ?_ ?_ <;> intro h) | (refine A_draw_of [] [] (by kernel_rfl) ?_ <;> have h := mark)) <;> simp only [go_sem, seval, eq_self, reduceCtorEq, cE4_at, spRight_mv, spRight_fn, spForm_mv, spForm_fn, spOn_mv, spSide_mv, spOnA_mv, spSent_mv, spMIns_mv, spMReg_mv, spMBare_mv, spMRegs_mv, mIns_0, mIns_1, mIns_2, mReg_0, mReg_1, mBare_0, mBare_1, mBare_2, mRegs_0, mRegs_1, mRegs_2, c1, hf, hOD, hOB, hSd, hEA, hS, ht, hlen, List.length_map, nest, ownV, c1, hf, b1, p1, h])
      all_goals (first | refine fin_ret ?_ | refine fin_normal ?_)
      all_goals simp only [resOf, Tryz.results50, Tryz.ntmps50, go_sem, seval, eq_self, reduceCtorEq, nest, ownC, cI, cR, cB, insZ, Cell.v]
    · have p1 : onI o d = 2 := by simpa using b1
      have e : eCells ⟨op, d, a, b, imm⟩ o pc off = [cI 7 ⟨op, d, a, b, imm⟩ pc off] := by simp [eCells, c1, hf, b1, p1]
      rw [e]
      simp only [go_sem, seval, eq_self, reduceCtorEq, cE4_at, spRight_mv, spRight_fn, spForm_mv, spForm_fn, spOn_mv, spSide_mv, spOnA_mv, spSent_mv, spMIns_mv, spMReg_mv, spMBare_mv, spMRegs_mv, mIns_0, mIns_1, mIns_2, mReg_0, mReg_1, mBare_0, mBare_1, mBare_2, mRegs_0, mRegs_1, mRegs_2, c1, hf, hOD, hOB, hSd, hEA, hS, ht, hlen, List.length_map, nest, ownV, c1, hf, b1, p1]
      repeat' ((first | (refine AG_of ?_ ?_ <;> intro h) | (refine AB_of ?_ ?_ <;> intro h) | (refine A_draw_of [] [] (by kernel_rfl) ?_ <;> have h := mark)) <;> simp only [go_sem, seval, eq_self, reduceCtorEq, cE4_at, spRight_mv, spRight_fn, spForm_mv, spForm_fn, spOn_mv, spSide_mv, spOnA_mv, spSent_mv, spMIns_mv, spMReg_mv, spMBare_mv, spMRegs_mv, mIns_0, mIns_1, mIns_2, mReg_0, mReg_1, mBare_0, mBare_1, mBare_2, mRegs_0, mRegs_1, mRegs_2, c1, hf, hOD, hOB, hSd, hEA, hS, ht, hlen, List.length_map, nest, ownV, c1, hf, b1, p1, h])
      all_goals (first | refine fin_ret ?_ | refine fin_normal ?_)
      all_goals simp only [resOf, Tryz.results50, Tryz.ntmps50, go_sem, seval, eq_self, reduceCtorEq, nest, ownC, cI, cR, cB, insZ, Cell.v]
  · cases b1 : (onI o b == 1)
    · have p1 : ¬ onI o b = 1 := by simpa using b1
      have e : eCells ⟨op, d, a, b, imm⟩ o pc off = [cR 8 b pc off] := by simp [eCells, c1, hf, b1, p1]
      rw [e]
      simp only [go_sem, seval, eq_self, reduceCtorEq, cE4_at, spRight_mv, spRight_fn, spForm_mv, spForm_fn, spOn_mv, spSide_mv, spOnA_mv, spSent_mv, spMIns_mv, spMReg_mv, spMBare_mv, spMRegs_mv, mIns_0, mIns_1, mIns_2, mReg_0, mReg_1, mBare_0, mBare_1, mBare_2, mRegs_0, mRegs_1, mRegs_2, c1, hf, hOD, hOB, hSd, hEA, hS, ht, hlen, List.length_map, nest, ownV, c1, hf, b1, p1]
      repeat' ((first | (refine AG_of ?_ ?_ <;> intro h) | (refine AB_of ?_ ?_ <;> intro h) | (refine A_draw_of [] [] (by kernel_rfl) ?_ <;> have h := mark)) <;> simp only [go_sem, seval, eq_self, reduceCtorEq, cE4_at, spRight_mv, spRight_fn, spForm_mv, spForm_fn, spOn_mv, spSide_mv, spOnA_mv, spSent_mv, spMIns_mv, spMReg_mv, spMBare_mv, spMRegs_mv, mIns_0, mIns_1, mIns_2, mReg_0, mReg_1, mBare_0, mBare_1, mBare_2, mRegs_0, mRegs_1, mRegs_2, c1, hf, hOD, hOB, hSd, hEA, hS, ht, hlen, List.length_map, nest, ownV, c1, hf, b1, p1, h])
      all_goals (first | refine fin_ret ?_ | refine fin_normal ?_)
      all_goals simp only [resOf, Tryz.results50, Tryz.ntmps50, go_sem, seval, eq_self, reduceCtorEq, nest, ownC, cI, cR, cB, insZ, Cell.v]
    · have p1 : onI o b = 1 := by simpa using b1
      have e : eCells ⟨op, d, a, b, imm⟩ o pc off = [cR 6 b pc off, cR 8 b pc off] := by simp [eCells, c1, hf, b1, p1]
      rw [e]
      simp only [go_sem, seval, eq_self, reduceCtorEq, cE4_at, spRight_mv, spRight_fn, spForm_mv, spForm_fn, spOn_mv, spSide_mv, spOnA_mv, spSent_mv, spMIns_mv, spMReg_mv, spMBare_mv, spMRegs_mv, mIns_0, mIns_1, mIns_2, mReg_0, mReg_1, mBare_0, mBare_1, mBare_2, mRegs_0, mRegs_1, mRegs_2, c1, hf, hOD, hOB, hSd, hEA, hS, ht, hlen, List.length_map, nest, ownV, c1, hf, b1, p1]
      repeat' ((first | (refine AG_of ?_ ?_ <;> intro h) | (refine AB_of ?_ ?_ <;> intro h) | (refine A_draw_of [] [] (by kernel_rfl) ?_ <;> have h := mark)) <;> simp only [go_sem, seval, eq_self, reduceCtorEq, cE4_at, spRight_mv, spRight_fn, spForm_mv, spForm_fn, spOn_mv, spSide_mv, spOnA_mv, spSent_mv, spMIns_mv, spMReg_mv, spMBare_mv, spMRegs_mv, mIns_0, mIns_1, mIns_2, mReg_0, mReg_1, mBare_0, mBare_1, mBare_2, mRegs_0, mRegs_1, mRegs_2, c1, hf, hOD, hOB, hSd, hEA, hS, ht, hlen, List.length_map, nest, ownV, c1, hf, b1, p1, h])
      all_goals (first | refine fin_ret ?_ | refine fin_normal ?_)
      all_goals simp only [resOf, Tryz.results50, Tryz.ntmps50, go_sem, seval, eq_self, reduceCtorEq, nest, ownC, cI, cR, cB, insZ, Cell.v]
  · cases b1 : onEB ⟨op, d, a, b, imm⟩ o
    ·
      have e : eCells ⟨op, d, a, b, imm⟩ o pc off = [cB 10 pc off] := by simp [eCells, c1, hf, b1]
      rw [e]
      simp only [go_sem, seval, eq_self, reduceCtorEq, cE4_at, spRight_mv, spRight_fn, spForm_mv, spForm_fn, spOn_mv, spSide_mv, spOnA_mv, spSent_mv, spMIns_mv, spMReg_mv, spMBare_mv, spMRegs_mv, mIns_0, mIns_1, mIns_2, mReg_0, mReg_1, mBare_0, mBare_1, mBare_2, mRegs_0, mRegs_1, mRegs_2, c1, hf, hOD, hOB, hSd, hEA, hS, ht, hlen, List.length_map, nest, ownV, c1, hf, b1]
      repeat' ((first | (refine AG_of ?_ ?_ <;> intro h) | (refine AB_of ?_ ?_ <;> intro h) | (refine A_draw_of [] [] (by kernel_rfl) ?_ <;> have h := mark)) <;> simp only [go_sem, seval, eq_self, reduceCtorEq, cE4_at, spRight_mv, spRight_fn, spForm_mv, spForm_fn, spOn_mv, spSide_mv, spOnA_mv, spSent_mv, spMIns_mv, spMReg_mv, spMBare_mv, spMRegs_mv, mIns_0, mIns_1, mIns_2, mReg_0, mReg_1, mBare_0, mBare_1, mBare_2, mRegs_0, mRegs_1, mRegs_2, c1, hf, hOD, hOB, hSd, hEA, hS, ht, hlen, List.length_map, nest, ownV, c1, hf, b1, h])
      all_goals (first | refine fin_ret ?_ | refine fin_normal ?_)
      all_goals simp only [resOf, Tryz.results50, Tryz.ntmps50, go_sem, seval, eq_self, reduceCtorEq, nest, ownC, cI, cR, cB, insZ, Cell.v]
    ·
      match s, hsl, hS, hs with
      | [], _, hS, hs =>
        simp only [List.map_cons, List.map_nil, ownOr, List.isEmpty_nil, List.isEmpty_cons, if_true, if_false, Bool.false_eq_true, iv] at hS
        have e : eCells ⟨op, d, a, b, imm⟩ o pc off = [cI 9 ⟨op, d, a, b, imm⟩ pc off] := by simp [eCells, c1, hf, b1, hs]
        rw [e]
        simp only [go_sem, seval, eq_self, reduceCtorEq, cE4_at, spRight_mv, spRight_fn, spForm_mv, spForm_fn, spOn_mv, spSide_mv, spOnA_mv, spSent_mv, spMIns_mv, spMReg_mv, spMBare_mv, spMRegs_mv, mIns_0, mIns_1, mIns_2, mReg_0, mReg_1, mBare_0, mBare_1, mBare_2, mRegs_0, mRegs_1, mRegs_2, c1, hf, hOD, hOB, hSd, hEA, hS, ht, hlen, List.length_map, nest, ownV, c1, hf, b1, hs]
        repeat' ((first | (refine AG_of ?_ ?_ <;> intro h) | (refine AB_of ?_ ?_ <;> intro h) | (refine A_draw_of [] [] (by kernel_rfl) ?_ <;> have h := mark)) <;> simp only [go_sem, seval, eq_self, reduceCtorEq, cE4_at, spRight_mv, spRight_fn, spForm_mv, spForm_fn, spOn_mv, spSide_mv, spOnA_mv, spSent_mv, spMIns_mv, spMReg_mv, spMBare_mv, spMRegs_mv, mIns_0, mIns_1, mIns_2, mReg_0, mReg_1, mBare_0, mBare_1, mBare_2, mRegs_0, mRegs_1, mRegs_2, c1, hf, hOD, hOB, hSd, hEA, hS, ht, hlen, List.length_map, nest, ownV, c1, hf, b1, hs, h])
        all_goals (first | refine fin_ret ?_ | refine fin_normal ?_)
        all_goals simp only [resOf, Tryz.results50, Tryz.ntmps50, go_sem, seval, eq_self, reduceCtorEq, nest, ownC, cI, cR, cB, insZ, Cell.v]
      | [r], _, hS, hs =>
        simp only [List.map_cons, List.map_nil, ownOr, List.isEmpty_nil, List.isEmpty_cons, if_true, if_false, Bool.false_eq_true, iv] at hS
        have e : eCells ⟨op, d, a, b, imm⟩ o pc off = [cR 6 r pc off, cI 9 ⟨op, d, a, b, imm⟩ pc off] := by simp [eCells, c1, hf, b1, hs]
        rw [e]
        simp only [go_sem, seval, eq_self, reduceCtorEq, cE4_at, spRight_mv, spRight_fn, spForm_mv, spForm_fn, spOn_mv, spSide_mv, spOnA_mv, spSent_mv, spMIns_mv, spMReg_mv, spMBare_mv, spMRegs_mv, mIns_0, mIns_1, mIns_2, mReg_0, mReg_1, mBare_0, mBare_1, mBare_2, mRegs_0, mRegs_1, mRegs_2, c1, hf, hOD, hOB, hSd, hEA, hS, ht, hlen, List.length_map, nest, ownV, c1, hf, b1, hs]
        repeat' ((first | (refine AG_of ?_ ?_ <;> intro h) | (refine AB_of ?_ ?_ <;> intro h) | (refine A_draw_of [] [] (by kernel_rfl) ?_ <;> have h := mark)) <;> simp only [go_sem, seval, eq_self, reduceCtorEq, cE4_at, spRight_mv, spRight_fn, spForm_mv, spForm_fn, spOn_mv, spSide_mv, spOnA_mv, spSent_mv, spMIns_mv, spMReg_mv, spMBare_mv, spMRegs_mv, mIns_0, mIns_1, mIns_2, mReg_0, mReg_1, mBare_0, mBare_1, mBare_2, mRegs_0, mRegs_1, mRegs_2, c1, hf, hOD, hOB, hSd, hEA, hS, ht, hlen, List.length_map, nest, ownV, c1, hf, b1, hs, h])
        all_goals (first | refine fin_ret ?_ | refine fin_normal ?_)
        all_goals simp only [resOf, Tryz.results50, Tryz.ntmps50, go_sem, seval, eq_self, reduceCtorEq, nest, ownC, cI, cR, cB, insZ, Cell.v]
      | [r, r'], _, hS, hs =>
        simp only [List.map_cons, List.map_nil, ownOr, List.isEmpty_nil, List.isEmpty_cons, if_true, if_false, Bool.false_eq_true, iv] at hS
        have e : eCells ⟨op, d, a, b, imm⟩ o pc off = [cR 6 r pc off, cR 6 r' pc off, cI 9 ⟨op, d, a, b, imm⟩ pc off] := by simp [eCells, c1, hf, b1, hs]
        rw [e]
        simp only [go_sem, seval, eq_self, reduceCtorEq, cE4_at, spRight_mv, spRight_fn, spForm_mv, spForm_fn, spOn_mv, spSide_mv, spOnA_mv, spSent_mv, spMIns_mv, spMReg_mv, spMBare_mv, spMRegs_mv, mIns_0, mIns_1, mIns_2, mReg_0, mReg_1, mBare_0, mBare_1, mBare_2, mRegs_0, mRegs_1, mRegs_2, c1, hf, hOD, hOB, hSd, hEA, hS, ht, hlen, List.length_map, nest, ownV, c1, hf, b1, hs]
        repeat' ((first | (refine AG_of ?_ ?_ <;> intro h) | (refine AB_of ?_ ?_ <;> intro h) | (refine A_draw_of [] [] (by kernel_rfl) ?_ <;> have h := mark)) <;> simp only [go_sem, seval, eq_self, reduceCtorEq, cE4_at, spRight_mv, spRight_fn, spForm_mv, spForm_fn, spOn_mv, spSide_mv, spOnA_mv, spSent_mv, spMIns_mv, spMReg_mv, spMBare_mv, spMRegs_mv, mIns_0, mIns_1, mIns_2, mReg_0, mReg_1, mBare_0, mBare_1, mBare_2, mRegs_0, mRegs_1, mRegs_2, c1, hf, hOD, hOB, hSd, hEA, hS, ht, hlen, List.length_map, nest, ownV, c1, hf, b1, hs, h])
        all_goals (first | refine fin_ret ?_ | refine fin_normal ?_)
        all_goals simp only [resOf, Tryz.results50, Tryz.ntmps50, go_sem, seval, eq_self, reduceCtorEq, nest, ownC, cI, cR, cB, insZ, Cell.v]
  ·
    have e : eCells ⟨op, d, a, b, imm⟩ o pc off = [cB 11 pc off] := by simp [eCells, c1, hf]
    rw [e]
    simp only [go_sem, seval, eq_self, reduceCtorEq, cE4_at, spRight_mv, spRight_fn, spForm_mv, spForm_fn, spOn_mv, spSide_mv, spOnA_mv, spSent_mv, spMIns_mv, spMReg_mv, spMBare_mv, spMRegs_mv, mIns_0, mIns_1, mIns_2, mReg_0, mReg_1, mBare_0, mBare_1, mBare_2, mRegs_0, mRegs_1, mRegs_2, c1, hf, hOD, hOB, hSd, hEA, hS, ht, hlen, List.length_map, nest, ownV, c1, hf]
    repeat' ((first | (refine AG_of ?_ ?_ <;> intro h) | (refine AB_of ?_ ?_ <;> intro h) | (refine A_draw_of [] [] (by kernel_rfl) ?_ <;> have h := mark)) <;> simp only [go_sem, seval, eq_self, reduceCtorEq, cE4_at, spRight_mv, spRight_fn, spForm_mv, spForm_fn, spOn_mv, spSide_mv, spOnA_mv, spSent_mv, spMIns_mv, spMReg_mv, spMBare_mv, spMRegs_mv, mIns_0, mIns_1, mIns_2, mReg_0, mReg_1, mBare_0, mBare_1, mBare_2, mRegs_0, mRegs_1, mRegs_2, c1, hf, hOD, hOB, hSd, hEA, hS, ht, hlen, List.length_map, nest, ownV, c1, hf, h])
    all_goals (first | refine fin_ret ?_ | refine fin_normal ?_)
    all_goals simp only [resOf, Tryz.results50, Tryz.ntmps50, go_sem, seval, eq_self, reduceCtorEq, nest, ownC, cI, cR, cB, insZ, Cell.v]
  ·
    have e : eCells ⟨op, d, a, b, imm⟩ o pc off = [cB 12 pc off] := by simp [eCells, c1, hf]
    rw [e]
    simp only [go_sem, seval, eq_self, reduceCtorEq, cE4_at, spRight_mv, spRight_fn, spForm_mv, spForm_fn, spOn_mv, spSide_mv, spOnA_mv, spSent_mv, spMIns_mv, spMReg_mv, spMBare_mv, spMRegs_mv, mIns_0, mIns_1, mIns_2, mReg_0, mReg_1, mBare_0, mBare_1, mBare_2, mRegs_0, mRegs_1, mRegs_2, c1, hf, hOD, hOB, hSd, hEA, hS, ht, hlen, List.length_map, nest, ownV, c1, hf]
    repeat' ((first | (refine AG_of ?_ ?_ <;> intro h) | (refine AB_of ?_ ?_ <;> intro h) | (refine A_draw_of [] [] (by kernel_rfl) ?_ <;> have h := mark)) <;> simp only [go_sem, seval, eq_self, reduceCtorEq, cE4_at, spRight_mv, spRight_fn, spForm_mv, spForm_fn, spOn_mv, spSide_mv, spOnA_mv, spSent_mv, spMIns_mv, spMReg_mv, spMBare_mv, spMRegs_mv, mIns_0, mIns_1, mIns_2, mReg_0, mReg_1, mBare_0, mBare_1, mBare_2, mRegs_0, mRegs_1, mRegs_2, c1, hf, hOD, hOB, hSd, hEA, hS, ht, hlen, List.length_map, nest, ownV, c1, hf, h])
    all_goals (first | refine fin_ret ?_ | refine fin_normal ?_)
    all_goals simp only [resOf, Tryz.results50, Tryz.ntmps50, go_sem, seval, eq_self, reduceCtorEq, nest, ownC, cI, cR, cB, insZ, Cell.v]


end Go.Proofs.YtkfmecmmbnehjaaGreat
