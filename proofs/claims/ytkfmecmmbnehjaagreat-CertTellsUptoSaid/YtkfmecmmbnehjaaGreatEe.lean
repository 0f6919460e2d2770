/-
The reference's cells by the plain reckoning; when lists of cells are the same; EmitTells. No condition.
-/
import Derived.Test.YtkfmecmmbnehjaaGreatEd
namespace Go.Proofs.YtkfmecmmbnehjaaGreat
set_option linter.unusedSimpArgs false
set_option linter.unusedVariables false

def lstC (l : List Cell) : V := if l.isEmpty then .s (.slice none 0 0) else .lst true 9 (l.map Cell.v)
theorem ronE_onI {o : List Int} {r : Int} (h0 : 0 ≤ r) (h1 : r < 16) : (decide (0 < r) && oAt o r == 2) = (onI o r == 2) := by
  unfold onI
  by_cases h : r < 1
  · have : r = 0 := by omega
    subst this
    simp
  · rw [if_neg (by omega), show decide (0 < r) = true by simp; omega, Bool.true_and]
def spREmit : Spec := ⟨[], fun xs => match xs with
  | [.agg [.s (.int .i64 op), .s (.int .i64 d), .s (.int .i64 a), .s (.int .i64 b), .s (.int .i64 imm)], y, .s (.int .i64 pc), .s (.int .i64 off)] => (ownOf y).bind fun o => some (.tup [lstC (aCells ⟨op, d, a, b, imm⟩ o pc off), lstC (eCells ⟨op, d, a, b, imm⟩ o pc off)])
  | _ => none⟩
theorem spREmit_v {o : List Int} (ho : o.length = 16) (op d a b imm pc off : Int) : spREmit.fn [.agg [.s (.int .i64 op), .s (.int .i64 d), .s (.int .i64 a), .s (.int .i64 b), .s (.int .i64 imm)], .agg (o.map iv), .s (.int .i64 pc), .s (.int .i64 off)] = some (.tup [lstC (aCells ⟨op, d, a, b, imm⟩ o pc off), lstC (eCells ⟨op, d, a, b, imm⟩ o pc off)]) := by
  have : ownOf (.agg (o.map iv)) = some o := ownOf_v ho
  simp only [spREmit, this, Option.bind_some]
set_option maxHeartbeats 16000000 in
set_option maxRecDepth 8000 in
theorem remit_impl : Impl Tryz.prog 37 spREmit := by
  refine impl_walk mixed cE4_ok eqT_ok Tryz.func37 rfl Tryz.ntmps37 (by kernel_rfl) ?_
  intro xs r h
  unfold spREmit at h
  simp only at h
  (try split at h) <;> try (cases (show none = some r from h); done)
  rename_i op d a b imm y pc off
  obtain ⟨o, ho, h2⟩ := Option.bind_eq_some_iff.1 h
  clear h
  cases h2
  obtain ⟨rfl, hlen⟩ := ownOf_eq ho
  clear ho
  refine ⟨by simp [ownV], ?_⟩
  cases c1 : rightB ⟨op, d, a, b, imm⟩
  · have e1 : aCells ⟨op, d, a, b, imm⟩ o pc off = [] := by simp [aCells, c1]
    have e2 : eCells ⟨op, d, a, b, imm⟩ o pc off = [] := by simp [eCells, c1]
    rw [e1, e2]
    simp only [go_sem, seval, eq_self, reduceCtorEq, cE4_rt, spRight_mv, spRight_fn, spForm_mv, spForm_fn, spOn_mv, spSide_mv, spROnE_mv, spAnyE_mv, spReadsL_mv, spSent_mv, spRIns_mv, spRReg_mv, spRPlain_mv, spRRegs_mv, rIns_0, rIns_1, rIns_2, rReg_0, rReg_1, rPlain_0, rPlain_1, rPlain_2, rRegs_0, rRegs_1, rRegs_2, c1, ownV]
    repeat' ((first | (refine AG_of ?_ ?_ <;> intro h) | (refine AB_of ?_ ?_ <;> intro h) | (refine A_draw_of [] [] (by kernel_rfl) ?_ <;> have h := mark)) <;> simp only [go_sem, seval, eq_self, reduceCtorEq, cE4_rt, spRight_mv, spRight_fn, spForm_mv, spForm_fn, spOn_mv, spSide_mv, spROnE_mv, spAnyE_mv, spReadsL_mv, spSent_mv, spRIns_mv, spRReg_mv, spRPlain_mv, spRRegs_mv, rIns_0, rIns_1, rIns_2, rReg_0, rReg_1, rPlain_0, rPlain_1, rPlain_2, rRegs_0, rRegs_1, rRegs_2, c1, ownV, h])
    all_goals (first | refine fin_ret ?_ | refine fin_normal ?_)
    all_goals simp only [resOf, Tryz.results37, Tryz.ntmps37, go_sem, seval, eq_self, reduceCtorEq, lstC]
  have hft := right_fit c1
  have hd0 := hft.d0; have hd1 := hft.d1
  simp only at hd0 hd1
  have ht := take_iv hlen
  have hOB := spOn_v hlen b
  have hSd := side_v hlen op d a b imm
  have hRO := spROnE_v hlen (r := d) (by omega)
  rw [ronE_onI hd0 (by omega)] at hRO
  have hsl := sent_len ⟨op, d, a, b, imm⟩ o
  have hS := spSent_v hlen op d a b imm
  obtain ⟨s, hs⟩ : ∃ s, sentL ⟨op, d, a, b, imm⟩ o = s := ⟨_, rfl⟩
  rw [hs] at hsl hS
  have hfs := form_cases c1
  simp only at hfs
  rcases hfs with hf | hf | hf | hf | hf | hf | hf | hf
  · cases b1 : (sideI ⟨op, d, a, b, imm⟩ o == 1)
    · have p1 : ¬ sideI ⟨op, d, a, b, imm⟩ o = 1 := by simpa using b1
      match s, hsl, hS, hs with
      | [], _, hS, hs =>
        simp only [List.map_cons, List.map_nil, ownOr, List.isEmpty_nil, List.isEmpty_cons, if_true, if_false, Bool.false_eq_true, iv] at hS
        have e1 : aCells ⟨op, d, a, b, imm⟩ o pc off = [] := by simp [aCells, c1, hf, b1, p1, hs]
        have e2 : eCells ⟨op, d, a, b, imm⟩ o pc off = [cI 1 ⟨op, d, a, b, imm⟩ pc off] := by simp [eCells, c1, hf, b1, p1, hs]
        rw [e1, e2]
        simp only [go_sem, seval, eq_self, reduceCtorEq, cE4_rt, spRight_mv, spRight_fn, spForm_mv, spForm_fn, spOn_mv, spSide_mv, spROnE_mv, spAnyE_mv, spReadsL_mv, spSent_mv, spRIns_mv, spRReg_mv, spRPlain_mv, spRRegs_mv, rIns_0, rIns_1, rIns_2, rReg_0, rReg_1, rPlain_0, rPlain_1, rPlain_2, rRegs_0, rRegs_1, rRegs_2, c1, hf, hOB, hSd, hRO, hS, ht, hlen, List.length_map, nest, ownV, c1, hf, b1, p1, hs]
        repeat' ((first | (refine AG_of ?_ ?_ <;> intro h) | (refine AB_of ?_ ?_ <;> intro h) | (refine A_draw_of [] [] (by kernel_rfl) ?_ <;> have h := mark)) <;> simp only [go_sem, seval, eq_self, reduceCtorEq, cE4_rt, spRight_mv, spRight_fn, spForm_mv, spForm_fn, spOn_mv, spSide_mv, spROnE_mv, spAnyE_mv, spReadsL_mv, spSent_mv, spRIns_mv, spRReg_mv, spRPlain_mv, spRRegs_mv, rIns_0, rIns_1, rIns_2, rReg_0, rReg_1, rPlain_0, rPlain_1, rPlain_2, rRegs_0, rRegs_1, rRegs_2, c1, hf, hOB, hSd, hRO, hS, ht, hlen, List.length_map, nest, ownV, c1, hf, b1, p1, hs, h])
        all_goals (first | refine fin_ret ?_ | refine fin_normal ?_)
        all_goals simp only [resOf, Tryz.results37, Tryz.ntmps37, go_sem, seval, eq_self, reduceCtorEq, nest, lstC, cI, cR, cB, insZ, Cell.v]
      | [r], _, hS, hs =>
        simp only [List.map_cons, List.map_nil, ownOr, List.isEmpty_nil, List.isEmpty_cons, if_true, if_false, Bool.false_eq_true, iv] at hS
        have e1 : aCells ⟨op, d, a, b, imm⟩ o pc off = [cR 5 r pc off] := by simp [aCells, c1, hf, b1, p1, hs]
        have e2 : eCells ⟨op, d, a, b, imm⟩ o pc off = [cR 6 r pc off, cI 1 ⟨op, d, a, b, imm⟩ pc off] := by simp [eCells, c1, hf, b1, p1, hs]
        rw [e1, e2]
        simp only [go_sem, seval, eq_self, reduceCtorEq, cE4_rt, spRight_mv, spRight_fn, spForm_mv, spForm_fn, spOn_mv, spSide_mv, spROnE_mv, spAnyE_mv, spReadsL_mv, spSent_mv, spRIns_mv, spRReg_mv, spRPlain_mv, spRRegs_mv, rIns_0, rIns_1, rIns_2, rReg_0, rReg_1, rPlain_0, rPlain_1, rPlain_2, rRegs_0, rRegs_1, rRegs_2, c1, hf, hOB, hSd, hRO, hS, ht, hlen, List.length_map, nest, ownV, c1, hf, b1, p1, hs]
        repeat' ((first | (refine AG_of ?_ ?_ <;> intro h) | (refine AB_of ?_ ?_ <;> intro h) | (refine A_draw_of [] [] (by kernel_rfl) ?_ <;> have h := mark)) <;> simp only [go_sem, seval, eq_self, reduceCtorEq, cE4_rt, spRight_mv, spRight_fn, spForm_mv, spForm_fn, spOn_mv, spSide_mv, spROnE_mv, spAnyE_mv, spReadsL_mv, spSent_mv, spRIns_mv, spRReg_mv, spRPlain_mv, spRRegs_mv, rIns_0, rIns_1, rIns_2, rReg_0, rReg_1, rPlain_0, rPlain_1, rPlain_2, rRegs_0, rRegs_1, rRegs_2, c1, hf, hOB, hSd, hRO, hS, ht, hlen, List.length_map, nest, ownV, c1, hf, b1, p1, hs, h])
        all_goals (first | refine fin_ret ?_ | refine fin_normal ?_)
        all_goals simp only [resOf, Tryz.results37, Tryz.ntmps37, go_sem, seval, eq_self, reduceCtorEq, nest, lstC, cI, cR, cB, insZ, Cell.v]
      | [r, r'], _, hS, hs =>
        simp only [List.map_cons, List.map_nil, ownOr, List.isEmpty_nil, List.isEmpty_cons, if_true, if_false, Bool.false_eq_true, iv] at hS
        have e1 : aCells ⟨op, d, a, b, imm⟩ o pc off = [cR 5 r pc off, cR 5 r' pc off] := by simp [aCells, c1, hf, b1, p1, hs]
        have e2 : eCells ⟨op, d, a, b, imm⟩ o pc off = [cR 6 r pc off, cR 6 r' pc off, cI 1 ⟨op, d, a, b, imm⟩ pc off] := by simp [eCells, c1, hf, b1, p1, hs]
        rw [e1, e2]
        simp only [go_sem, seval, eq_self, reduceCtorEq, cE4_rt, spRight_mv, spRight_fn, spForm_mv, spForm_fn, spOn_mv, spSide_mv, spROnE_mv, spAnyE_mv, spReadsL_mv, spSent_mv, spRIns_mv, spRReg_mv, spRPlain_mv, spRRegs_mv, rIns_0, rIns_1, rIns_2, rReg_0, rReg_1, rPlain_0, rPlain_1, rPlain_2, rRegs_0, rRegs_1, rRegs_2, c1, hf, hOB, hSd, hRO, hS, ht, hlen, List.length_map, nest, ownV, c1, hf, b1, p1, hs]
        repeat' ((first | (refine AG_of ?_ ?_ <;> intro h) | (refine AB_of ?_ ?_ <;> intro h) | (refine A_draw_of [] [] (by kernel_rfl) ?_ <;> have h := mark)) <;> simp only [go_sem, seval, eq_self, reduceCtorEq, cE4_rt, spRight_mv, spRight_fn, spForm_mv, spForm_fn, spOn_mv, spSide_mv, spROnE_mv, spAnyE_mv, spReadsL_mv, spSent_mv, spRIns_mv, spRReg_mv, spRPlain_mv, spRRegs_mv, rIns_0, rIns_1, rIns_2, rReg_0, rReg_1, rPlain_0, rPlain_1, rPlain_2, rRegs_0, rRegs_1, rRegs_2, c1, hf, hOB, hSd, hRO, hS, ht, hlen, List.length_map, nest, ownV, c1, hf, b1, p1, hs, h])
        all_goals (first | refine fin_ret ?_ | refine fin_normal ?_)
        all_goals simp only [resOf, Tryz.results37, Tryz.ntmps37, go_sem, seval, eq_self, reduceCtorEq, nest, lstC, cI, cR, cB, insZ, Cell.v]
    · have p1 : sideI ⟨op, d, a, b, imm⟩ o = 1 := by simpa using b1
      have e1 : aCells ⟨op, d, a, b, imm⟩ o pc off = [cI 1 ⟨op, d, a, b, imm⟩ pc off] := by simp [aCells, c1, hf, b1, p1]
      have e2 : eCells ⟨op, d, a, b, imm⟩ o pc off = [] := by simp [eCells, c1, hf, b1, p1]
      rw [e1, e2]
      simp only [go_sem, seval, eq_self, reduceCtorEq, cE4_rt, spRight_mv, spRight_fn, spForm_mv, spForm_fn, spOn_mv, spSide_mv, spROnE_mv, spAnyE_mv, spReadsL_mv, spSent_mv, spRIns_mv, spRReg_mv, spRPlain_mv, spRRegs_mv, rIns_0, rIns_1, rIns_2, rReg_0, rReg_1, rPlain_0, rPlain_1, rPlain_2, rRegs_0, rRegs_1, rRegs_2, c1, hf, hOB, hSd, hRO, hS, ht, hlen, List.length_map, nest, ownV, c1, hf, b1, p1]
      repeat' ((first | (refine AG_of ?_ ?_ <;> intro h) | (refine AB_of ?_ ?_ <;> intro h) | (refine A_draw_of [] [] (by kernel_rfl) ?_ <;> have h := mark)) <;> simp only [go_sem, seval, eq_self, reduceCtorEq, cE4_rt, spRight_mv, spRight_fn, spForm_mv, spForm_fn, spOn_mv, spSide_mv, spROnE_mv, spAnyE_mv, spReadsL_mv, spSent_mv, spRIns_mv, spRReg_mv, spRPlain_mv, spRRegs_mv, rIns_0, rIns_1, rIns_2, rReg_0, rReg_1, rPlain_0, rPlain_1, rPlain_2, rRegs_0, rRegs_1, rRegs_2, c1, hf, hOB, hSd, hRO, hS, ht, hlen, List.length_map, nest, ownV, c1, hf, b1, p1, h])
      all_goals (first | refine fin_ret ?_ | refine fin_normal ?_)
      all_goals simp only [resOf, Tryz.results37, Tryz.ntmps37, go_sem, seval, eq_self, reduceCtorEq, nest, lstC, cI, cR, cB, insZ, Cell.v]
  · cases b1 : (sideI ⟨op, d, a, b, imm⟩ o == 1)
    · have p1 : ¬ sideI ⟨op, d, a, b, imm⟩ o = 1 := by simpa using b1
      match s, hsl, hS, hs with
      | [], _, hS, hs =>
        simp only [List.map_cons, List.map_nil, ownOr, List.isEmpty_nil, List.isEmpty_cons, if_true, if_false, Bool.false_eq_true, iv] at hS
        have e1 : aCells ⟨op, d, a, b, imm⟩ o pc off = [] := by simp [aCells, c1, hf, b1, p1, hs]
        have e2 : eCells ⟨op, d, a, b, imm⟩ o pc off = [cI 1 ⟨op, d, a, b, imm⟩ pc off] := by simp [eCells, c1, hf, b1, p1, hs]
        rw [e1, e2]
        simp only [go_sem, seval, eq_self, reduceCtorEq, cE4_rt, spRight_mv, spRight_fn, spForm_mv, spForm_fn, spOn_mv, spSide_mv, spROnE_mv, spAnyE_mv, spReadsL_mv, spSent_mv, spRIns_mv, spRReg_mv, spRPlain_mv, spRRegs_mv, rIns_0, rIns_1, rIns_2, rReg_0, rReg_1, rPlain_0, rPlain_1, rPlain_2, rRegs_0, rRegs_1, rRegs_2, c1, hf, hOB, hSd, hRO, hS, ht, hlen, List.length_map, nest, ownV, c1, hf, b1, p1, hs]
        repeat' ((first | (refine AG_of ?_ ?_ <;> intro h) | (refine AB_of ?_ ?_ <;> intro h) | (refine A_draw_of [] [] (by kernel_rfl) ?_ <;> have h := mark)) <;> simp only [go_sem, seval, eq_self, reduceCtorEq, cE4_rt, spRight_mv, spRight_fn, spForm_mv, spForm_fn, spOn_mv, spSide_mv, spROnE_mv, spAnyE_mv, spReadsL_mv, spSent_mv, spRIns_mv, spRReg_mv, spRPlain_mv, spRRegs_mv, rIns_0, rIns_1, rIns_2, rReg_0, rReg_1, rPlain_0, rPlain_1, rPlain_2, rRegs_0, rRegs_1, rRegs_2, c1, hf, hOB, hSd, hRO, hS, ht, hlen, List.length_map, nest, ownV, c1, hf, b1, p1, hs, h])
        all_goals (first | refine fin_ret ?_ | refine fin_normal ?_)
        all_goals simp only [resOf, Tryz.results37, Tryz.ntmps37, go_sem, seval, eq_self, reduceCtorEq, nest, lstC, cI, cR, cB, insZ, Cell.v]
      | [r], _, hS, hs =>
        simp only [List.map_cons, List.map_nil, ownOr, List.isEmpty_nil, List.isEmpty_cons, if_true, if_false, Bool.false_eq_true, iv] at hS
        have e1 : aCells ⟨op, d, a, b, imm⟩ o pc off = [cR 5 r pc off] := by simp [aCells, c1, hf, b1, p1, hs]
        have e2 : eCells ⟨op, d, a, b, imm⟩ o pc off = [cR 6 r pc off, cI 1 ⟨op, d, a, b, imm⟩ pc off] := by simp [eCells, c1, hf, b1, p1, hs]
        rw [e1, e2]
        simp only [go_sem, seval, eq_self, reduceCtorEq, cE4_rt, spRight_mv, spRight_fn, spForm_mv, spForm_fn, spOn_mv, spSide_mv, spROnE_mv, spAnyE_mv, spReadsL_mv, spSent_mv, spRIns_mv, spRReg_mv, spRPlain_mv, spRRegs_mv, rIns_0, rIns_1, rIns_2, rReg_0, rReg_1, rPlain_0, rPlain_1, rPlain_2, rRegs_0, rRegs_1, rRegs_2, c1, hf, hOB, hSd, hRO, hS, ht, hlen, List.length_map, nest, ownV, c1, hf, b1, p1, hs]
        repeat' ((first | (refine AG_of ?_ ?_ <;> intro h) | (refine AB_of ?_ ?_ <;> intro h) | (refine A_draw_of [] [] (by kernel_rfl) ?_ <;> have h := mark)) <;> simp only [go_sem, seval, eq_self, reduceCtorEq, cE4_rt, spRight_mv, spRight_fn, spForm_mv, spForm_fn, spOn_mv, spSide_mv, spROnE_mv, spAnyE_mv, spReadsL_mv, spSent_mv, spRIns_mv, spRReg_mv, spRPlain_mv, spRRegs_mv, rIns_0, rIns_1, rIns_2, rReg_0, rReg_1, rPlain_0, rPlain_1, rPlain_2, rRegs_0, rRegs_1, rRegs_2, c1, hf, hOB, hSd, hRO, hS, ht, hlen, List.length_map, nest, ownV, c1, hf, b1, p1, hs, h])
        all_goals (first | refine fin_ret ?_ | refine fin_normal ?_)
        all_goals simp only [resOf, Tryz.results37, Tryz.ntmps37, go_sem, seval, eq_self, reduceCtorEq, nest, lstC, cI, cR, cB, insZ, Cell.v]
      | [r, r'], _, hS, hs =>
        simp only [List.map_cons, List.map_nil, ownOr, List.isEmpty_nil, List.isEmpty_cons, if_true, if_false, Bool.false_eq_true, iv] at hS
        have e1 : aCells ⟨op, d, a, b, imm⟩ o pc off = [cR 5 r pc off, cR 5 r' pc off] := by simp [aCells, c1, hf, b1, p1, hs]
        have e2 : eCells ⟨op, d, a, b, imm⟩ o pc off = [cR 6 r pc off, cR 6 r' pc off, cI 1 ⟨op, d, a, b, imm⟩ pc off] := by simp [eCells, c1, hf, b1, p1, hs]
        rw [e1, e2]
        simp only [go_sem, seval, eq_self, reduceCtorEq, cE4_rt, spRight_mv, spRight_fn, spForm_mv, spForm_fn, spOn_mv, spSide_mv, spROnE_mv, spAnyE_mv, spReadsL_mv, spSent_mv, spRIns_mv, spRReg_mv, spRPlain_mv, spRRegs_mv, rIns_0, rIns_1, rIns_2, rReg_0, rReg_1, rPlain_0, rPlain_1, rPlain_2, rRegs_0, rRegs_1, rRegs_2, c1, hf, hOB, hSd, hRO, hS, ht, hlen, List.length_map, nest, ownV, c1, hf, b1, p1, hs]
        repeat' ((first | (refine AG_of ?_ ?_ <;> intro h) | (refine AB_of ?_ ?_ <;> intro h) | (refine A_draw_of [] [] (by kernel_rfl) ?_ <;> have h := mark)) <;> simp only [go_sem, seval, eq_self, reduceCtorEq, cE4_rt, spRight_mv, spRight_fn, spForm_mv, spForm_fn, spOn_mv, spSide_mv, spROnE_mv, spAnyE_mv, spReadsL_mv, spSent_mv, spRIns_mv, spRReg_mv, spRPlain_mv, spRRegs_mv, rIns_0, rIns_1, rIns_2, rReg_0, rReg_1, rPlain_0, rPlain_1, rPlain_2, rRegs_0, rRegs_1, rRegs_2, c1, hf, hOB, hSd, hRO, hS, ht, hlen, List.length_map, nest, ownV, c1, hf, b1, p1, hs, h])
        all_goals (first | refine fin_ret ?_ | refine fin_normal ?_)
        all_goals simp only [resOf, Tryz.results37, Tryz.ntmps37, go_sem, seval, eq_self, reduceCtorEq, nest, lstC, cI, cR, cB, insZ, Cell.v]
    · have p1 : sideI ⟨op, d, a, b, imm⟩ o = 1 := by simpa using b1
      have e1 : aCells ⟨op, d, a, b, imm⟩ o pc off = [cI 1 ⟨op, d, a, b, imm⟩ pc off] := by simp [aCells, c1, hf, b1, p1]
      have e2 : eCells ⟨op, d, a, b, imm⟩ o pc off = [] := by simp [eCells, c1, hf, b1, p1]
      rw [e1, e2]
      simp only [go_sem, seval, eq_self, reduceCtorEq, cE4_rt, spRight_mv, spRight_fn, spForm_mv, spForm_fn, spOn_mv, spSide_mv, spROnE_mv, spAnyE_mv, spReadsL_mv, spSent_mv, spRIns_mv, spRReg_mv, spRPlain_mv, spRRegs_mv, rIns_0, rIns_1, rIns_2, rReg_0, rReg_1, rPlain_0, rPlain_1, rPlain_2, rRegs_0, rRegs_1, rRegs_2, c1, hf, hOB, hSd, hRO, hS, ht, hlen, List.length_map, nest, ownV, c1, hf, b1, p1]
      repeat' ((first | (refine AG_of ?_ ?_ <;> intro h) | (refine AB_of ?_ ?_ <;> intro h) | (refine A_draw_of [] [] (by kernel_rfl) ?_ <;> have h := mark)) <;> simp only [go_sem, seval, eq_self, reduceCtorEq, cE4_rt, spRight_mv, spRight_fn, spForm_mv, spForm_fn, spOn_mv, spSide_mv, spROnE_mv, spAnyE_mv, spReadsL_mv, spSent_mv, spRIns_mv, spRReg_mv, spRPlain_mv, spRRegs_mv, rIns_0, rIns_1, rIns_2, rReg_0, rReg_1, rPlain_0, rPlain_1, rPlain_2, rRegs_0, rRegs_1, rRegs_2, c1, hf, hOB, hSd, hRO, hS, ht, hlen, List.length_map, nest, ownV, c1, hf, b1, p1, h])
      all_goals (first | refine fin_ret ?_ | refine fin_normal ?_)
      all_goals simp only [resOf, Tryz.results37, Tryz.ntmps37, go_sem, seval, eq_self, reduceCtorEq, nest, lstC, cI, cR, cB, insZ, Cell.v]
  · cases b1 : (sideI ⟨op, d, a, b, imm⟩ o == 1)
    · have p1 : ¬ sideI ⟨op, d, a, b, imm⟩ o = 1 := by simpa using b1
      match s, hsl, hS, hs with
      | [], _, hS, hs =>
        simp only [List.map_cons, List.map_nil, ownOr, List.isEmpty_nil, List.isEmpty_cons, if_true, if_false, Bool.false_eq_true, iv] at hS
        have e1 : aCells ⟨op, d, a, b, imm⟩ o pc off = [] := by simp [aCells, c1, hf, b1, p1, hs]
        have e2 : eCells ⟨op, d, a, b, imm⟩ o pc off = [cI 1 ⟨op, d, a, b, imm⟩ pc off] := by simp [eCells, c1, hf, b1, p1, hs]
        rw [e1, e2]
        simp only [go_sem, seval, eq_self, reduceCtorEq, cE4_rt, spRight_mv, spRight_fn, spForm_mv, spForm_fn, spOn_mv, spSide_mv, spROnE_mv, spAnyE_mv, spReadsL_mv, spSent_mv, spRIns_mv, spRReg_mv, spRPlain_mv, spRRegs_mv, rIns_0, rIns_1, rIns_2, rReg_0, rReg_1, rPlain_0, rPlain_1, rPlain_2, rRegs_0, rRegs_1, rRegs_2, c1, hf, hOB, hSd, hRO, hS, ht, hlen, List.length_map, nest, ownV, c1, hf, b1, p1, hs]
        repeat' ((first | (refine AG_of ?_ ?_ <;> intro h) | (refine AB_of ?_ ?_ <;> intro h) | (refine A_draw_of [] [] (by kernel_rfl) ?_ <;> have h := mark)) <;> simp only [go_sem, seval, eq_self, reduceCtorEq, cE4_rt, spRight_mv, spRight_fn, spForm_mv, spForm_fn, spOn_mv, spSide_mv, spROnE_mv, spAnyE_mv, spReadsL_mv, spSent_mv, spRIns_mv, spRReg_mv, spRPlain_mv, spRRegs_mv, rIns_0, rIns_1, rIns_2, rReg_0, rReg_1, rPlain_0, rPlain_1, rPlain_2, rRegs_0, rRegs_1, rRegs_2, c1, hf, hOB, hSd, hRO, hS, ht, hlen, List.length_map, nest, ownV, c1, hf, b1, p1, hs, h])
        all_goals (first | refine fin_ret ?_ | refine fin_normal ?_)
        all_goals simp only [resOf, Tryz.results37, Tryz.ntmps37, go_sem, seval, eq_self, reduceCtorEq, nest, lstC, cI, cR, cB, insZ, Cell.v]
      | [r], _, hS, hs =>
        simp only [List.map_cons, List.map_nil, ownOr, List.isEmpty_nil, List.isEmpty_cons, if_true, if_false, Bool.false_eq_true, iv] at hS
        have e1 : aCells ⟨op, d, a, b, imm⟩ o pc off = [cR 5 r pc off] := by simp [aCells, c1, hf, b1, p1, hs]
        have e2 : eCells ⟨op, d, a, b, imm⟩ o pc off = [cR 6 r pc off, cI 1 ⟨op, d, a, b, imm⟩ pc off] := by simp [eCells, c1, hf, b1, p1, hs]
        rw [e1, e2]
        simp only [go_sem, seval, eq_self, reduceCtorEq, cE4_rt, spRight_mv, spRight_fn, spForm_mv, spForm_fn, spOn_mv, spSide_mv, spROnE_mv, spAnyE_mv, spReadsL_mv, spSent_mv, spRIns_mv, spRReg_mv, spRPlain_mv, spRRegs_mv, rIns_0, rIns_1, rIns_2, rReg_0, rReg_1, rPlain_0, rPlain_1, rPlain_2, rRegs_0, rRegs_1, rRegs_2, c1, hf, hOB, hSd, hRO, hS, ht, hlen, List.length_map, nest, ownV, c1, hf, b1, p1, hs]
        repeat' ((first | (refine AG_of ?_ ?_ <;> intro h) | (refine AB_of ?_ ?_ <;> intro h) | (refine A_draw_of [] [] (by kernel_rfl) ?_ <;> have h := mark)) <;> simp only [go_sem, seval, eq_self, reduceCtorEq, cE4_rt, spRight_mv, spRight_fn, spForm_mv, spForm_fn, spOn_mv, spSide_mv, spROnE_mv, spAnyE_mv, spReadsL_mv, spSent_mv, spRIns_mv, spRReg_mv, spRPlain_mv, spRRegs_mv, rIns_0, rIns_1, rIns_2, rReg_0, rReg_1, rPlain_0, rPlain_1, rPlain_2, rRegs_0, rRegs_1, rRegs_2, c1, hf, hOB, hSd, hRO, hS, ht, hlen, List.length_map, nest, ownV, c1, hf, b1, p1, hs, h])
        all_goals (first | refine fin_ret ?_ | refine fin_normal ?_)
        all_goals simp only [resOf, Tryz.results37, Tryz.ntmps37, go_sem, seval, eq_self, reduceCtorEq, nest, lstC, cI, cR, cB, insZ, Cell.v]
      | [r, r'], _, hS, hs =>
        simp only [List.map_cons, List.map_nil, ownOr, List.isEmpty_nil, List.isEmpty_cons, if_true, if_false, Bool.false_eq_true, iv] at hS
        have e1 : aCells ⟨op, d, a, b, imm⟩ o pc off = [cR 5 r pc off, cR 5 r' pc off] := by simp [aCells, c1, hf, b1, p1, hs]
        have e2 : eCells ⟨op, d, a, b, imm⟩ o pc off = [cR 6 r pc off, cR 6 r' pc off, cI 1 ⟨op, d, a, b, imm⟩ pc off] := by simp [eCells, c1, hf, b1, p1, hs]
        rw [e1, e2]
        simp only [go_sem, seval, eq_self, reduceCtorEq, cE4_rt, spRight_mv, spRight_fn, spForm_mv, spForm_fn, spOn_mv, spSide_mv, spROnE_mv, spAnyE_mv, spReadsL_mv, spSent_mv, spRIns_mv, spRReg_mv, spRPlain_mv, spRRegs_mv, rIns_0, rIns_1, rIns_2, rReg_0, rReg_1, rPlain_0, rPlain_1, rPlain_2, rRegs_0, rRegs_1, rRegs_2, c1, hf, hOB, hSd, hRO, hS, ht, hlen, List.length_map, nest, ownV, c1, hf, b1, p1, hs]
        repeat' ((first | (refine AG_of ?_ ?_ <;> intro h) | (refine AB_of ?_ ?_ <;> intro h) | (refine A_draw_of [] [] (by kernel_rfl) ?_ <;> have h := mark)) <;> simp only [go_sem, seval, eq_self, reduceCtorEq, cE4_rt, spRight_mv, spRight_fn, spForm_mv, spForm_fn, spOn_mv, spSide_mv, spROnE_mv, spAnyE_mv, spReadsL_mv, spSent_mv, spRIns_mv, spRReg_mv, spRPlain_mv, spRRegs_mv, rIns_0, rIns_1, rIns_2, rReg_0, rReg_1, rPlain_0, rPlain_1, rPlain_2, rRegs_0, rRegs_1, rRegs_2, c1, hf, hOB, hSd, hRO, hS, ht, hlen, List.length_map, nest, ownV, c1, hf, b1, p1, hs, h])
        all_goals (first | refine fin_ret ?_ | refine fin_normal ?_)
        all_goals simp only [resOf, Tryz.results37, Tryz.ntmps37, go_sem, seval, eq_self, reduceCtorEq, nest, lstC, cI, cR, cB, insZ, Cell.v]
    · have p1 : sideI ⟨op, d, a, b, imm⟩ o = 1 := by simpa using b1
      have e1 : aCells ⟨op, d, a, b, imm⟩ o pc off = [cI 1 ⟨op, d, a, b, imm⟩ pc off] := by simp [aCells, c1, hf, b1, p1]
      have e2 : eCells ⟨op, d, a, b, imm⟩ o pc off = [] := by simp [eCells, c1, hf, b1, p1]
      rw [e1, e2]
      simp only [go_sem, seval, eq_self, reduceCtorEq, cE4_rt, spRight_mv, spRight_fn, spForm_mv, spForm_fn, spOn_mv, spSide_mv, spROnE_mv, spAnyE_mv, spReadsL_mv, spSent_mv, spRIns_mv, spRReg_mv, spRPlain_mv, spRRegs_mv, rIns_0, rIns_1, rIns_2, rReg_0, rReg_1, rPlain_0, rPlain_1, rPlain_2, rRegs_0, rRegs_1, rRegs_2, c1, hf, hOB, hSd, hRO, hS, ht, hlen, List.length_map, nest, ownV, c1, hf, b1, p1]
      repeat' ((first | (refine AG_of ?_ ?_ <;> intro h) | (refine AB_of ?_ ?_ <;> intro h) | (refine A_draw_of [] [] (by kernel_rfl) ?_ <;> have h := mark)) <;> simp only [go_sem, seval, eq_self, reduceCtorEq, cE4_rt, spRight_mv, spRight_fn, spForm_mv, spForm_fn, spOn_mv, spSide_mv, spROnE_mv, spAnyE_mv, spReadsL_mv, spSent_mv, spRIns_mv, spRReg_mv, spRPlain_mv, spRRegs_mv, rIns_0, rIns_1, rIns_2, rReg_0, rReg_1, rPlain_0, rPlain_1, rPlain_2, rRegs_0, rRegs_1, rRegs_2, c1, hf, hOB, hSd, hRO, hS, ht, hlen, List.length_map, nest, ownV, c1, hf, b1, p1, h])
      all_goals (first | refine fin_ret ?_ | refine fin_normal ?_)
      all_goals simp only [resOf, Tryz.results37, Tryz.ntmps37, go_sem, seval, eq_self, reduceCtorEq, nest, lstC, cI, cR, cB, insZ, Cell.v]
  · cases b1 : (onI o d == 2)
    · have p1 : ¬ onI o d = 2 := by simpa using b1
      have e1 : aCells ⟨op, d, a, b, imm⟩ o pc off = [cI 2 ⟨op, d, a, b, imm⟩ pc off] := by simp [aCells, c1, hf, b1, p1]
      have e2 : eCells ⟨op, d, a, b, imm⟩ o pc off = [] := by simp [eCells, c1, hf, b1, p1]
      rw [e1, e2]
      simp only [go_sem, seval, eq_self, reduceCtorEq, cE4_rt, spRight_mv, spRight_fn, spForm_mv, spForm_fn, spOn_mv, spSide_mv, spROnE_mv, spAnyE_mv, spReadsL_mv, spSent_mv, spRIns_mv, spRReg_mv, spRPlain_mv, spRRegs_mv, rIns_0, rIns_1, rIns_2, rReg_0, rReg_1, rPlain_0, rPlain_1, rPlain_2, rRegs_0, rRegs_1, rRegs_2, c1, hf, hOB, hSd, hRO, hS, ht, hlen, List.length_map, nest, ownV, c1, hf, b1, p1]
      repeat' ((first | (refine AG_of ?_ ?_ <;> intro h) | (refine AB_of ?_ ?_ <;> intro h) | (refine A_draw_of [] [] (by kernel_rfl) ?_ <;> have h := mark)) <;> simp only [go_sem, seval, eq_self, reduceCtorEq, cE4_rt, spRight_mv, spRight_fn, spForm_mv, spForm_fn, spOn_mv, spSide_mv, spROnE_mv, spAnyE_mv, spReadsL_mv, spSent_mv, spRIns_mv, spRReg_mv, spRPlain_mv, spRRegs_mv, rIns_0, rIns_1, rIns_2, rReg_0, rReg_1, rPlain_0, rPlain_1, rPlain_2, rRegs_0, rRegs_1, rRegs_2, c1, hf, hOB, hSd, hRO, hS, ht, hlen, List.length_map, nest, ownV, c1, hf, b1, p1, h])
      all_goals (first | refine fin_ret ?_ | refine fin_normal ?_)
      all_goals simp only [resOf, Tryz.results37, Tryz.ntmps37, go_sem, seval, eq_self, reduceCtorEq, nest, lstC, cI, cR, cB, insZ, Cell.v]
    · have p1 : onI o d = 2 := by simpa using b1
      have e1 : aCells ⟨op, d, a, b, imm⟩ o pc off = [cI 3 ⟨op, d, a, b, imm⟩ pc off] := by simp [aCells, c1, hf, b1, p1]
      have e2 : eCells ⟨op, d, a, b, imm⟩ o pc off = [cI 7 ⟨op, d, a, b, imm⟩ pc off] := by simp [eCells, c1, hf, b1, p1]
      rw [e1, e2]
      simp only [go_sem, seval, eq_self, reduceCtorEq, cE4_rt, spRight_mv, spRight_fn, spForm_mv, spForm_fn, spOn_mv, spSide_mv, spROnE_mv, spAnyE_mv, spReadsL_mv, spSent_mv, spRIns_mv, spRReg_mv, spRPlain_mv, spRRegs_mv, rIns_0, rIns_1, rIns_2, rReg_0, rReg_1, rPlain_0, rPlain_1, rPlain_2, rRegs_0, rRegs_1, rRegs_2, c1, hf, hOB, hSd, hRO, hS, ht, hlen, List.length_map, nest, ownV, c1, hf, b1, p1]
      repeat' ((first | (refine AG_of ?_ ?_ <;> intro h) | (refine AB_of ?_ ?_ <;> intro h) | (refine A_draw_of [] [] (by kernel_rfl) ?_ <;> have h := mark)) <;> simp only [go_sem, seval, eq_self, reduceCtorEq, cE4_rt, spRight_mv, spRight_fn, spForm_mv, spForm_fn, spOn_mv, spSide_mv, spROnE_mv, spAnyE_mv, spReadsL_mv, spSent_mv, spRIns_mv, spRReg_mv, spRPlain_mv, spRRegs_mv, rIns_0, rIns_1, rIns_2, rReg_0, rReg_1, rPlain_0, rPlain_1, rPlain_2, rRegs_0, rRegs_1, rRegs_2, c1, hf, hOB, hSd, hRO, hS, ht, hlen, List.length_map, nest, ownV, c1, hf, b1, p1, h])
      all_goals (first | refine fin_ret ?_ | refine fin_normal ?_)
      all_goals simp only [resOf, Tryz.results37, Tryz.ntmps37, go_sem, seval, eq_self, reduceCtorEq, nest, lstC, cI, cR, cB, insZ, Cell.v]
  · cases b1 : (onI o b == 1)
    · have p1 : ¬ onI o b = 1 := by simpa using b1
      have e1 : aCells ⟨op, d, a, b, imm⟩ o pc off = [cI 4 ⟨op, d, a, b, imm⟩ pc off] := by simp [aCells, c1, hf, b1, p1]
      have e2 : eCells ⟨op, d, a, b, imm⟩ o pc off = [cR 8 b pc off] := by simp [eCells, c1, hf, b1, p1]
      rw [e1, e2]
      simp only [go_sem, seval, eq_self, reduceCtorEq, cE4_rt, spRight_mv, spRight_fn, spForm_mv, spForm_fn, spOn_mv, spSide_mv, spROnE_mv, spAnyE_mv, spReadsL_mv, spSent_mv, spRIns_mv, spRReg_mv, spRPlain_mv, spRRegs_mv, rIns_0, rIns_1, rIns_2, rReg_0, rReg_1, rPlain_0, rPlain_1, rPlain_2, rRegs_0, rRegs_1, rRegs_2, c1, hf, hOB, hSd, hRO, hS, ht, hlen, List.length_map, nest, ownV, c1, hf, b1, p1]
      repeat' ((first | (refine AG_of ?_ ?_ <;> intro h) | (refine AB_of ?_ ?_ <;> intro h) | (refine A_draw_of [] [] (by kernel_rfl) ?_ <;> have h := mark)) <;> simp only [go_sem, seval, eq_self, reduceCtorEq, cE4_rt, spRight_mv, spRight_fn, spForm_mv, spForm_fn, spOn_mv, spSide_mv, spROnE_mv, spAnyE_mv, spReadsL_mv, spSent_mv, spRIns_mv, spRReg_mv, spRPlain_mv, spRRegs_mv, rIns_0, rIns_1, rIns_2, rReg_0, rReg_1, rPlain_0, rPlain_1, rPlain_2, rRegs_0, rRegs_1, rRegs_2, c1, hf, hOB, hSd, hRO, hS, ht, hlen, List.length_map, nest, ownV, c1, hf, b1, p1, h])
      all_goals (first | refine fin_ret ?_ | refine fin_normal ?_)
      all_goals simp only [resOf, Tryz.results37, Tryz.ntmps37, go_sem, seval, eq_self, reduceCtorEq, nest, lstC, cI, cR, cB, insZ, Cell.v]
    · have p1 : onI o b = 1 := by simpa using b1
      have e1 : aCells ⟨op, d, a, b, imm⟩ o pc off = [cR 5 b pc off, cI 4 ⟨op, d, a, b, imm⟩ pc off] := by simp [aCells, c1, hf, b1, p1]
      have e2 : eCells ⟨op, d, a, b, imm⟩ o pc off = [cR 6 b pc off, cR 8 b pc off] := by simp [eCells, c1, hf, b1, p1]
      rw [e1, e2]
      simp only [go_sem, seval, eq_self, reduceCtorEq, cE4_rt, spRight_mv, spRight_fn, spForm_mv, spForm_fn, spOn_mv, spSide_mv, spROnE_mv, spAnyE_mv, spReadsL_mv, spSent_mv, spRIns_mv, spRReg_mv, spRPlain_mv, spRRegs_mv, rIns_0, rIns_1, rIns_2, rReg_0, rReg_1, rPlain_0, rPlain_1, rPlain_2, rRegs_0, rRegs_1, rRegs_2, c1, hf, hOB, hSd, hRO, hS, ht, hlen, List.length_map, nest, ownV, c1, hf, b1, p1]
      repeat' ((first | (refine AG_of ?_ ?_ <;> intro h) | (refine AB_of ?_ ?_ <;> intro h) | (refine A_draw_of [] [] (by kernel_rfl) ?_ <;> have h := mark)) <;> simp only [go_sem, seval, eq_self, reduceCtorEq, cE4_rt, spRight_mv, spRight_fn, spForm_mv, spForm_fn, spOn_mv, spSide_mv, spROnE_mv, spAnyE_mv, spReadsL_mv, spSent_mv, spRIns_mv, spRReg_mv, spRPlain_mv, spRRegs_mv, rIns_0, rIns_1, rIns_2, rReg_0, rReg_1, rPlain_0, rPlain_1, rPlain_2, rRegs_0, rRegs_1, rRegs_2, c1, hf, hOB, hSd, hRO, hS, ht, hlen, List.length_map, nest, ownV, c1, hf, b1, p1, h])
      all_goals (first | refine fin_ret ?_ | refine fin_normal ?_)
      all_goals simp only [resOf, Tryz.results37, Tryz.ntmps37, go_sem, seval, eq_self, reduceCtorEq, nest, lstC, cI, cR, cB, insZ, Cell.v]
  · obtain ⟨l, hl⟩ : ∃ l, readsL ⟨op, d, a, b, imm⟩ = l := ⟨_, rfl⟩
    have hR := readsL_v op d a b imm hl
    have hA := spAnyE_v hlen ⟨op, d, a, b, imm⟩ hl
    clear hl
    cases l with
    | nil =>
      simp only [List.isEmpty_nil, if_true] at hR hA
      cases b1 : onEB ⟨op, d, a, b, imm⟩ o
      ·
        rw [b1] at hA
        have e1 : aCells ⟨op, d, a, b, imm⟩ o pc off = [cI 9 ⟨op, d, a, b, imm⟩ pc off] := by simp [aCells, c1, hf, b1]
        have e2 : eCells ⟨op, d, a, b, imm⟩ o pc off = [cB 10 pc off] := by simp [eCells, c1, hf, b1]
        rw [e1, e2]
        simp only [go_sem, seval, eq_self, reduceCtorEq, cE4_rt, spRight_mv, spRight_fn, spForm_mv, spForm_fn, spOn_mv, spSide_mv, spROnE_mv, spAnyE_mv, spReadsL_mv, spSent_mv, spRIns_mv, spRReg_mv, spRPlain_mv, spRRegs_mv, rIns_0, rIns_1, rIns_2, rReg_0, rReg_1, rPlain_0, rPlain_1, rPlain_2, rRegs_0, rRegs_1, rRegs_2, c1, hf, hOB, hSd, hRO, hS, ht, hlen, List.length_map, nest, ownV, c1, hf, b1, hR, hA]
        repeat' ((first | (refine AG_of ?_ ?_ <;> intro h) | (refine AB_of ?_ ?_ <;> intro h) | (refine A_draw_of [] [] (by kernel_rfl) ?_ <;> have h := mark)) <;> simp only [go_sem, seval, eq_self, reduceCtorEq, cE4_rt, spRight_mv, spRight_fn, spForm_mv, spForm_fn, spOn_mv, spSide_mv, spROnE_mv, spAnyE_mv, spReadsL_mv, spSent_mv, spRIns_mv, spRReg_mv, spRPlain_mv, spRRegs_mv, rIns_0, rIns_1, rIns_2, rReg_0, rReg_1, rPlain_0, rPlain_1, rPlain_2, rRegs_0, rRegs_1, rRegs_2, c1, hf, hOB, hSd, hRO, hS, ht, hlen, List.length_map, nest, ownV, c1, hf, b1, hR, hA, h])
        all_goals (first | refine fin_ret ?_ | refine fin_normal ?_)
        all_goals simp only [resOf, Tryz.results37, Tryz.ntmps37, go_sem, seval, eq_self, reduceCtorEq, nest, lstC, cI, cR, cB, insZ, Cell.v]
      · rw [b1] at hA
        match s, hsl, hS, hs with
        | [], _, hS, hs =>
          simp only [List.map_cons, List.map_nil, ownOr, List.isEmpty_nil, List.isEmpty_cons, if_true, if_false, Bool.false_eq_true, iv] at hS
          have e1 : aCells ⟨op, d, a, b, imm⟩ o pc off = [cB 10 pc off] := by simp [aCells, c1, hf, b1, hs]
          have e2 : eCells ⟨op, d, a, b, imm⟩ o pc off = [cI 9 ⟨op, d, a, b, imm⟩ pc off] := by simp [eCells, c1, hf, b1, hs]
          rw [e1, e2]
          simp only [go_sem, seval, eq_self, reduceCtorEq, cE4_rt, spRight_mv, spRight_fn, spForm_mv, spForm_fn, spOn_mv, spSide_mv, spROnE_mv, spAnyE_mv, spReadsL_mv, spSent_mv, spRIns_mv, spRReg_mv, spRPlain_mv, spRRegs_mv, rIns_0, rIns_1, rIns_2, rReg_0, rReg_1, rPlain_0, rPlain_1, rPlain_2, rRegs_0, rRegs_1, rRegs_2, c1, hf, hOB, hSd, hRO, hS, ht, hlen, List.length_map, nest, ownV, c1, hf, b1, hs, hR, hA]
          repeat' ((first | (refine AG_of ?_ ?_ <;> intro h) | (refine AB_of ?_ ?_ <;> intro h) | (refine A_draw_of [] [] (by kernel_rfl) ?_ <;> have h := mark)) <;> simp only [go_sem, seval, eq_self, reduceCtorEq, cE4_rt, spRight_mv, spRight_fn, spForm_mv, spForm_fn, spOn_mv, spSide_mv, spROnE_mv, spAnyE_mv, spReadsL_mv, spSent_mv, spRIns_mv, spRReg_mv, spRPlain_mv, spRRegs_mv, rIns_0, rIns_1, rIns_2, rReg_0, rReg_1, rPlain_0, rPlain_1, rPlain_2, rRegs_0, rRegs_1, rRegs_2, c1, hf, hOB, hSd, hRO, hS, ht, hlen, List.length_map, nest, ownV, c1, hf, b1, hs, hR, hA, h])
          all_goals (first | refine fin_ret ?_ | refine fin_normal ?_)
          all_goals simp only [resOf, Tryz.results37, Tryz.ntmps37, go_sem, seval, eq_self, reduceCtorEq, nest, lstC, cI, cR, cB, insZ, Cell.v]
        | [r], _, hS, hs =>
          simp only [List.map_cons, List.map_nil, ownOr, List.isEmpty_nil, List.isEmpty_cons, if_true, if_false, Bool.false_eq_true, iv] at hS
          have e1 : aCells ⟨op, d, a, b, imm⟩ o pc off = [cR 5 r pc off, cB 10 pc off] := by simp [aCells, c1, hf, b1, hs]
          have e2 : eCells ⟨op, d, a, b, imm⟩ o pc off = [cR 6 r pc off, cI 9 ⟨op, d, a, b, imm⟩ pc off] := by simp [eCells, c1, hf, b1, hs]
          rw [e1, e2]
          simp only [go_sem, seval, eq_self, reduceCtorEq, cE4_rt, spRight_mv, spRight_fn, spForm_mv, spForm_fn, spOn_mv, spSide_mv, spROnE_mv, spAnyE_mv, spReadsL_mv, spSent_mv, spRIns_mv, spRReg_mv, spRPlain_mv, spRRegs_mv, rIns_0, rIns_1, rIns_2, rReg_0, rReg_1, rPlain_0, rPlain_1, rPlain_2, rRegs_0, rRegs_1, rRegs_2, c1, hf, hOB, hSd, hRO, hS, ht, hlen, List.length_map, nest, ownV, c1, hf, b1, hs, hR, hA]
          repeat' ((first | (refine AG_of ?_ ?_ <;> intro h) | (refine AB_of ?_ ?_ <;> intro h) | (refine A_draw_of [] [] (by kernel_rfl) ?_ <;> have h := mark)) <;> simp only [go_sem, seval, eq_self, reduceCtorEq, cE4_rt, spRight_mv, spRight_fn, spForm_mv, spForm_fn, spOn_mv, spSide_mv, spROnE_mv, spAnyE_mv, spReadsL_mv, spSent_mv, spRIns_mv, spRReg_mv, spRPlain_mv, spRRegs_mv, rIns_0, rIns_1, rIns_2, rReg_0, rReg_1, rPlain_0, rPlain_1, rPlain_2, rRegs_0, rRegs_1, rRegs_2, c1, hf, hOB, hSd, hRO, hS, ht, hlen, List.length_map, nest, ownV, c1, hf, b1, hs, hR, hA, h])
          all_goals (first | refine fin_ret ?_ | refine fin_normal ?_)
          all_goals simp only [resOf, Tryz.results37, Tryz.ntmps37, go_sem, seval, eq_self, reduceCtorEq, nest, lstC, cI, cR, cB, insZ, Cell.v]
        | [r, r'], _, hS, hs =>
          simp only [List.map_cons, List.map_nil, ownOr, List.isEmpty_nil, List.isEmpty_cons, if_true, if_false, Bool.false_eq_true, iv] at hS
          have e1 : aCells ⟨op, d, a, b, imm⟩ o pc off = [cR 5 r pc off, cR 5 r' pc off, cB 10 pc off] := by simp [aCells, c1, hf, b1, hs]
          have e2 : eCells ⟨op, d, a, b, imm⟩ o pc off = [cR 6 r pc off, cR 6 r' pc off, cI 9 ⟨op, d, a, b, imm⟩ pc off] := by simp [eCells, c1, hf, b1, hs]
          rw [e1, e2]
          simp only [go_sem, seval, eq_self, reduceCtorEq, cE4_rt, spRight_mv, spRight_fn, spForm_mv, spForm_fn, spOn_mv, spSide_mv, spROnE_mv, spAnyE_mv, spReadsL_mv, spSent_mv, spRIns_mv, spRReg_mv, spRPlain_mv, spRRegs_mv, rIns_0, rIns_1, rIns_2, rReg_0, rReg_1, rPlain_0, rPlain_1, rPlain_2, rRegs_0, rRegs_1, rRegs_2, c1, hf, hOB, hSd, hRO, hS, ht, hlen, List.length_map, nest, ownV, c1, hf, b1, hs, hR, hA]
          repeat' ((first | (refine AG_of ?_ ?_ <;> intro h) | (refine AB_of ?_ ?_ <;> intro h) | (refine A_draw_of [] [] (by kernel_rfl) ?_ <;> have h := mark)) <;> simp only [go_sem, seval, eq_self, reduceCtorEq, cE4_rt, spRight_mv, spRight_fn, spForm_mv, spForm_fn, spOn_mv, spSide_mv, spROnE_mv, spAnyE_mv, spReadsL_mv, spSent_mv, spRIns_mv, spRReg_mv, spRPlain_mv, spRRegs_mv, rIns_0, rIns_1, rIns_2, rReg_0, rReg_1, rPlain_0, rPlain_1, rPlain_2, rRegs_0, rRegs_1, rRegs_2, c1, hf, hOB, hSd, hRO, hS, ht, hlen, List.length_map, nest, ownV, c1, hf, b1, hs, hR, hA, h])
          all_goals (first | refine fin_ret ?_ | refine fin_normal ?_)
          all_goals simp only [resOf, Tryz.results37, Tryz.ntmps37, go_sem, seval, eq_self, reduceCtorEq, nest, lstC, cI, cR, cB, insZ, Cell.v]
    | cons z l =>
      simp only [List.isEmpty_cons, Bool.false_eq_true, if_false, List.map_cons] at hR hA
      cases b1 : onEB ⟨op, d, a, b, imm⟩ o
      ·
        rw [b1] at hA
        have e1 : aCells ⟨op, d, a, b, imm⟩ o pc off = [cI 9 ⟨op, d, a, b, imm⟩ pc off] := by simp [aCells, c1, hf, b1]
        have e2 : eCells ⟨op, d, a, b, imm⟩ o pc off = [cB 10 pc off] := by simp [eCells, c1, hf, b1]
        rw [e1, e2]
        simp only [go_sem, seval, eq_self, reduceCtorEq, cE4_rt, spRight_mv, spRight_fn, spForm_mv, spForm_fn, spOn_mv, spSide_mv, spROnE_mv, spAnyE_mv, spReadsL_mv, spSent_mv, spRIns_mv, spRReg_mv, spRPlain_mv, spRRegs_mv, rIns_0, rIns_1, rIns_2, rReg_0, rReg_1, rPlain_0, rPlain_1, rPlain_2, rRegs_0, rRegs_1, rRegs_2, c1, hf, hOB, hSd, hRO, hS, ht, hlen, List.length_map, nest, ownV, c1, hf, b1, hR, hA]
        repeat' ((first | (refine AG_of ?_ ?_ <;> intro h) | (refine AB_of ?_ ?_ <;> intro h) | (refine A_draw_of [] [] (by kernel_rfl) ?_ <;> have h := mark)) <;> simp only [go_sem, seval, eq_self, reduceCtorEq, cE4_rt, spRight_mv, spRight_fn, spForm_mv, spForm_fn, spOn_mv, spSide_mv, spROnE_mv, spAnyE_mv, spReadsL_mv, spSent_mv, spRIns_mv, spRReg_mv, spRPlain_mv, spRRegs_mv, rIns_0, rIns_1, rIns_2, rReg_0, rReg_1, rPlain_0, rPlain_1, rPlain_2, rRegs_0, rRegs_1, rRegs_2, c1, hf, hOB, hSd, hRO, hS, ht, hlen, List.length_map, nest, ownV, c1, hf, b1, hR, hA, h])
        all_goals (first | refine fin_ret ?_ | refine fin_normal ?_)
        all_goals simp only [resOf, Tryz.results37, Tryz.ntmps37, go_sem, seval, eq_self, reduceCtorEq, nest, lstC, cI, cR, cB, insZ, Cell.v]
      · rw [b1] at hA
        match s, hsl, hS, hs with
        | [], _, hS, hs =>
          simp only [List.map_cons, List.map_nil, ownOr, List.isEmpty_nil, List.isEmpty_cons, if_true, if_false, Bool.false_eq_true, iv] at hS
          have e1 : aCells ⟨op, d, a, b, imm⟩ o pc off = [cB 10 pc off] := by simp [aCells, c1, hf, b1, hs]
          have e2 : eCells ⟨op, d, a, b, imm⟩ o pc off = [cI 9 ⟨op, d, a, b, imm⟩ pc off] := by simp [eCells, c1, hf, b1, hs]
          rw [e1, e2]
          simp only [go_sem, seval, eq_self, reduceCtorEq, cE4_rt, spRight_mv, spRight_fn, spForm_mv, spForm_fn, spOn_mv, spSide_mv, spROnE_mv, spAnyE_mv, spReadsL_mv, spSent_mv, spRIns_mv, spRReg_mv, spRPlain_mv, spRRegs_mv, rIns_0, rIns_1, rIns_2, rReg_0, rReg_1, rPlain_0, rPlain_1, rPlain_2, rRegs_0, rRegs_1, rRegs_2, c1, hf, hOB, hSd, hRO, hS, ht, hlen, List.length_map, nest, ownV, c1, hf, b1, hs, hR, hA]
          repeat' ((first | (refine AG_of ?_ ?_ <;> intro h) | (refine AB_of ?_ ?_ <;> intro h) | (refine A_draw_of [] [] (by kernel_rfl) ?_ <;> have h := mark)) <;> simp only [go_sem, seval, eq_self, reduceCtorEq, cE4_rt, spRight_mv, spRight_fn, spForm_mv, spForm_fn, spOn_mv, spSide_mv, spROnE_mv, spAnyE_mv, spReadsL_mv, spSent_mv, spRIns_mv, spRReg_mv, spRPlain_mv, spRRegs_mv, rIns_0, rIns_1, rIns_2, rReg_0, rReg_1, rPlain_0, rPlain_1, rPlain_2, rRegs_0, rRegs_1, rRegs_2, c1, hf, hOB, hSd, hRO, hS, ht, hlen, List.length_map, nest, ownV, c1, hf, b1, hs, hR, hA, h])
          all_goals (first | refine fin_ret ?_ | refine fin_normal ?_)
          all_goals simp only [resOf, Tryz.results37, Tryz.ntmps37, go_sem, seval, eq_self, reduceCtorEq, nest, lstC, cI, cR, cB, insZ, Cell.v]
        | [r], _, hS, hs =>
          simp only [List.map_cons, List.map_nil, ownOr, List.isEmpty_nil, List.isEmpty_cons, if_true, if_false, Bool.false_eq_true, iv] at hS
          have e1 : aCells ⟨op, d, a, b, imm⟩ o pc off = [cR 5 r pc off, cB 10 pc off] := by simp [aCells, c1, hf, b1, hs]
          have e2 : eCells ⟨op, d, a, b, imm⟩ o pc off = [cR 6 r pc off, cI 9 ⟨op, d, a, b, imm⟩ pc off] := by simp [eCells, c1, hf, b1, hs]
          rw [e1, e2]
          simp only [go_sem, seval, eq_self, reduceCtorEq, cE4_rt, spRight_mv, spRight_fn, spForm_mv, spForm_fn, spOn_mv, spSide_mv, spROnE_mv, spAnyE_mv, spReadsL_mv, spSent_mv, spRIns_mv, spRReg_mv, spRPlain_mv, spRRegs_mv, rIns_0, rIns_1, rIns_2, rReg_0, rReg_1, rPlain_0, rPlain_1, rPlain_2, rRegs_0, rRegs_1, rRegs_2, c1, hf, hOB, hSd, hRO, hS, ht, hlen, List.length_map, nest, ownV, c1, hf, b1, hs, hR, hA]
          repeat' ((first | (refine AG_of ?_ ?_ <;> intro h) | (refine AB_of ?_ ?_ <;> intro h) | (refine A_draw_of [] [] (by kernel_rfl) ?_ <;> have h := mark)) <;> simp only [go_sem, seval, eq_self, reduceCtorEq, cE4_rt, spRight_mv, spRight_fn, spForm_mv, spForm_fn, spOn_mv, spSide_mv, spROnE_mv, spAnyE_mv, spReadsL_mv, spSent_mv, spRIns_mv, spRReg_mv, spRPlain_mv, spRRegs_mv, rIns_0, rIns_1, rIns_2, rReg_0, rReg_1, rPlain_0, rPlain_1, rPlain_2, rRegs_0, rRegs_1, rRegs_2, c1, hf, hOB, hSd, hRO, hS, ht, hlen, List.length_map, nest, ownV, c1, hf, b1, hs, hR, hA, h])
          all_goals (first | refine fin_ret ?_ | refine fin_normal ?_)
          all_goals simp only [resOf, Tryz.results37, Tryz.ntmps37, go_sem, seval, eq_self, reduceCtorEq, nest, lstC, cI, cR, cB, insZ, Cell.v]
        | [r, r'], _, hS, hs =>
          simp only [List.map_cons, List.map_nil, ownOr, List.isEmpty_nil, List.isEmpty_cons, if_true, if_false, Bool.false_eq_true, iv] at hS
          have e1 : aCells ⟨op, d, a, b, imm⟩ o pc off = [cR 5 r pc off, cR 5 r' pc off, cB 10 pc off] := by simp [aCells, c1, hf, b1, hs]
          have e2 : eCells ⟨op, d, a, b, imm⟩ o pc off = [cR 6 r pc off, cR 6 r' pc off, cI 9 ⟨op, d, a, b, imm⟩ pc off] := by simp [eCells, c1, hf, b1, hs]
          rw [e1, e2]
          simp only [go_sem, seval, eq_self, reduceCtorEq, cE4_rt, spRight_mv, spRight_fn, spForm_mv, spForm_fn, spOn_mv, spSide_mv, spROnE_mv, spAnyE_mv, spReadsL_mv, spSent_mv, spRIns_mv, spRReg_mv, spRPlain_mv, spRRegs_mv, rIns_0, rIns_1, rIns_2, rReg_0, rReg_1, rPlain_0, rPlain_1, rPlain_2, rRegs_0, rRegs_1, rRegs_2, c1, hf, hOB, hSd, hRO, hS, ht, hlen, List.length_map, nest, ownV, c1, hf, b1, hs, hR, hA]
          repeat' ((first | (refine AG_of ?_ ?_ <;> intro h) | (refine AB_of ?_ ?_ <;> intro h) | (refine A_draw_of [] [] (by kernel_rfl) ?_ <;> have h := mark)) <;> simp only [go_sem, seval, eq_self, reduceCtorEq, cE4_rt, spRight_mv, spRight_fn, spForm_mv, spForm_fn, spOn_mv, spSide_mv, spROnE_mv, spAnyE_mv, spReadsL_mv, spSent_mv, spRIns_mv, spRReg_mv, spRPlain_mv, spRRegs_mv, rIns_0, rIns_1, rIns_2, rReg_0, rReg_1, rPlain_0, rPlain_1, rPlain_2, rRegs_0, rRegs_1, rRegs_2, c1, hf, hOB, hSd, hRO, hS, ht, hlen, List.length_map, nest, ownV, c1, hf, b1, hs, hR, hA, h])
          all_goals (first | refine fin_ret ?_ | refine fin_normal ?_)
          all_goals simp only [resOf, Tryz.results37, Tryz.ntmps37, go_sem, seval, eq_self, reduceCtorEq, nest, lstC, cI, cR, cB, insZ, Cell.v]
  ·
    have e1 : aCells ⟨op, d, a, b, imm⟩ o pc off = [cB 11 pc off] := by simp [aCells, c1, hf]
    have e2 : eCells ⟨op, d, a, b, imm⟩ o pc off = [cB 11 pc off] := by simp [eCells, c1, hf]
    rw [e1, e2]
    simp only [go_sem, seval, eq_self, reduceCtorEq, cE4_rt, spRight_mv, spRight_fn, spForm_mv, spForm_fn, spOn_mv, spSide_mv, spROnE_mv, spAnyE_mv, spReadsL_mv, spSent_mv, spRIns_mv, spRReg_mv, spRPlain_mv, spRRegs_mv, rIns_0, rIns_1, rIns_2, rReg_0, rReg_1, rPlain_0, rPlain_1, rPlain_2, rRegs_0, rRegs_1, rRegs_2, c1, hf, hOB, hSd, hRO, hS, ht, hlen, List.length_map, nest, ownV, c1, hf]
    repeat' ((first | (refine AG_of ?_ ?_ <;> intro h) | (refine AB_of ?_ ?_ <;> intro h) | (refine A_draw_of [] [] (by kernel_rfl) ?_ <;> have h := mark)) <;> simp only [go_sem, seval, eq_self, reduceCtorEq, cE4_rt, spRight_mv, spRight_fn, spForm_mv, spForm_fn, spOn_mv, spSide_mv, spROnE_mv, spAnyE_mv, spReadsL_mv, spSent_mv, spRIns_mv, spRReg_mv, spRPlain_mv, spRRegs_mv, rIns_0, rIns_1, rIns_2, rReg_0, rReg_1, rPlain_0, rPlain_1, rPlain_2, rRegs_0, rRegs_1, rRegs_2, c1, hf, hOB, hSd, hRO, hS, ht, hlen, List.length_map, nest, ownV, c1, hf, h])
    all_goals (first | refine fin_ret ?_ | refine fin_normal ?_)
    all_goals simp only [resOf, Tryz.results37, Tryz.ntmps37, go_sem, seval, eq_self, reduceCtorEq, nest, lstC, cI, cR, cB, insZ, Cell.v]
  ·
    have e1 : aCells ⟨op, d, a, b, imm⟩ o pc off = [cB 12 pc off] := by simp [aCells, c1, hf]
    have e2 : eCells ⟨op, d, a, b, imm⟩ o pc off = [cB 12 pc off] := by simp [eCells, c1, hf]
    rw [e1, e2]
    simp only [go_sem, seval, eq_self, reduceCtorEq, cE4_rt, spRight_mv, spRight_fn, spForm_mv, spForm_fn, spOn_mv, spSide_mv, spROnE_mv, spAnyE_mv, spReadsL_mv, spSent_mv, spRIns_mv, spRReg_mv, spRPlain_mv, spRRegs_mv, rIns_0, rIns_1, rIns_2, rReg_0, rReg_1, rPlain_0, rPlain_1, rPlain_2, rRegs_0, rRegs_1, rRegs_2, c1, hf, hOB, hSd, hRO, hS, ht, hlen, List.length_map, nest, ownV, c1, hf]
    repeat' ((first | (refine AG_of ?_ ?_ <;> intro h) | (refine AB_of ?_ ?_ <;> intro h) | (refine A_draw_of [] [] (by kernel_rfl) ?_ <;> have h := mark)) <;> simp only [go_sem, seval, eq_self, reduceCtorEq, cE4_rt, spRight_mv, spRight_fn, spForm_mv, spForm_fn, spOn_mv, spSide_mv, spROnE_mv, spAnyE_mv, spReadsL_mv, spSent_mv, spRIns_mv, spRReg_mv, spRPlain_mv, spRRegs_mv, rIns_0, rIns_1, rIns_2, rReg_0, rReg_1, rPlain_0, rPlain_1, rPlain_2, rRegs_0, rRegs_1, rRegs_2, c1, hf, hOB, hSd, hRO, hS, ht, hlen, List.length_map, nest, ownV, c1, hf, h])
    all_goals (first | refine fin_ret ?_ | refine fin_normal ?_)
    all_goals simp only [resOf, Tryz.results37, Tryz.ntmps37, go_sem, seval, eq_self, reduceCtorEq, nest, lstC, cI, cR, cB, insZ, Cell.v]


end Go.Proofs.YtkfmecmmbnehjaaGreat
