/-
Which cells an instruction has: emit.A and emit.E by the plain reckoning. No condition.
-/
import Derived.Test.YtkfmecmmbnehjaaGreatEb
namespace Go.Proofs.YtkfmecmmbnehjaaGreat
set_option linter.unusedSimpArgs false
set_option linter.unusedVariables false

def cI (k : Int) (i : Ins) (pc off : Int) : Cell := ⟨k, i, 0, pc, off⟩
def cR (k r pc off : Int) : Cell := ⟨k, insZ, r, pc, off⟩
def cB (k pc off : Int) : Cell := ⟨k, insZ, 0, pc, off⟩
def aCells (i : Ins) (o : List Int) (pc off : Int) : List Cell :=
  if rightB i = true then
    if form i.op = 4 then (if onI o i.d = 2 then [cI 3 i pc off] else [cI 2 i pc off])
    else if form i.op = 5 then (if onI o i.b = 1 then [cR 5 i.b pc off, cI 4 i pc off] else [cI 4 i pc off])
    else if form i.op = 6 then (if onEB i o = true then (sentL i o).map (fun r => cR 5 r pc off) ++ [cB 10 pc off] else [cI 9 i pc off])
    else if form i.op = 7 then [cB 11 pc off]
    else if form i.op = 8 then [cB 12 pc off]
    else if sideI i o = 1 then [cI 1 i pc off] else (sentL i o).map (fun r => cR 5 r pc off)
  else []
def eCells (i : Ins) (o : List Int) (pc off : Int) : List Cell :=
  if rightB i = true then
    if form i.op = 4 then (if onI o i.d = 2 then [cI 7 i pc off] else [])
    else if form i.op = 5 then (if onI o i.b = 1 then [cR 6 i.b pc off, cR 8 i.b pc off] else [cR 8 i.b pc off])
    else if form i.op = 6 then (if onEB i o = true then (sentL i o).map (fun r => cR 6 r pc off) ++ [cI 9 i pc off] else [cB 10 pc off])
    else if form i.op = 7 then [cB 11 pc off]
    else if form i.op = 8 then [cB 12 pc off]
    else if sideI i o = 1 then [] else (sentL i o).map (fun r => cR 6 r pc off) ++ [cI 1 i pc off]
  else []
theorem form_cases {i : Ins} (h : rightB i = true) : form i.op = 1 ∨ form i.op = 2 ∨ form i.op = 3 ∨ form i.op = 4 ∨ form i.op = 5 ∨ form i.op = 6 ∨ form i.op = 7 ∨ form i.op = 8 := by
  have hp : 0 < form i.op := by
    simp only [rightB, Bool.and_eq_true, decide_eq_true_eq] at h
    omega
  have hle : form i.op ≤ 8 := by
    unfold form
    (repeat' split) <;> omega
  omega
theorem spOnE1b_impl : Impl Tryz.prog 113 spOnE1 := by
  refine impl_walk mixed cE2_ok eqT_ok Tryz.func113 rfl Tryz.ntmps113 (by kernel_rfl) ?_
  intro xs r h
  unfold spOnE1 at h
  simp only at h
  (try split at h) <;> try (cases (show none = some r from h); done)
  rename_i r q
  obtain ⟨o, ho, h2⟩ := Option.bind_eq_some_iff.1 h
  clear h
  split at h2
  case isFalse => cases h2
  rename_i hr
  cases h2
  obtain ⟨e, hlen⟩ := ownOf_eq ho
  simp only [ownV, V.agg.injEq] at e
  subst e
  clear ho
  obtain ⟨k, rfl⟩ : ∃ k : Nat, r = k := ⟨r.toNat, by omega⟩
  obtain ⟨h0, h1⟩ := hr
  have hd := drop_iv (o := o) (k := k) (by omega)
  refine ⟨by simp, ?_⟩
  simp only [go_sem, seval, eq_self, reduceCtorEq, h0, h1, hd, Int.toNat_natCast, Nat.mul_one, Nat.zero_add]
  repeat' ((first | (refine AG_of ?_ ?_ <;> intro h) | (refine AB_of ?_ ?_ <;> intro h) | (refine A_draw_of [] [] (by kernel_rfl) ?_ <;> have h := mark)) <;> simp only [go_sem, seval, eq_self, reduceCtorEq, h0, h1, hd, Int.toNat_natCast, Nat.mul_one, Nat.zero_add, h])
  all_goals (first | refine fin_ret ?_ | refine fin_normal ?_)
  all_goals simp only [resOf, Tryz.results113, Tryz.ntmps113, go_sem, seval, eq_self, reduceCtorEq]
def cE3a : Orc := upd cE2 113 (some spOnE1)
theorem cE3a_ok : ∀ g sp, cE3a g = some sp → Impl Tryz.prog g sp := orc_upd cE2_ok spOnE1b_impl
theorem cE3a_e : cE3a 113 = some spOnE1 := rfl
def cE3 : Orc := upd cE3a 72 (some (spContFI cE3a))
theorem cE3_ok : ∀ g sp, cE3 g = some sp → Impl Tryz.prog g sp := orc_upd cE3a_ok (contFI_impl cE3a_ok)
theorem cE3_at : cE3 72 = some (spContFI cE3a) ∧ cE3 112 = some spReadsL := ⟨rfl, rfl⟩
def spOnA : Spec := ⟨[], fun xs => match xs with
  | [.agg [.s (.int .i64 op), .s (.int .i64 d), .s (.int .i64 a), .s (.int .i64 b), .s (.int .i64 imm)], y] => (ownOf y).bind fun o => some (.s (.bool (!onEB ⟨op, d, a, b, imm⟩ o)))
  | _ => none⟩
theorem spOnA_mv : spOnA.mv = [] := rfl
theorem spOnA_v {o : List Int} (ho : o.length = 16) (op d a b imm : Int) : spOnA.fn [.agg [.s (.int .i64 op), .s (.int .i64 d), .s (.int .i64 a), .s (.int .i64 b), .s (.int .i64 imm)], .agg (o.map iv)] = some (.s (.bool (!onEB ⟨op, d, a, b, imm⟩ o))) := by
  have : ownOf (.agg (o.map iv)) = some o := ownOf_v ho
  simp only [spOnA, this, Option.bind_some]
theorem onA_impl : Impl Tryz.prog 85 spOnA := by
  refine impl_walk mixed cE3_ok eqT_ok Tryz.func85 rfl Tryz.ntmps85 (by kernel_rfl) ?_
  intro xs r h
  unfold spOnA at h
  simp only at h
  (try split at h) <;> try (cases (show none = some r from h); done)
  rename_i op d a b imm y
  obtain ⟨o, ho, h2⟩ := Option.bind_eq_some_iff.1 h
  clear h
  cases h2
  obtain ⟨rfl, hlen⟩ := ownOf_eq ho
  clear ho
  obtain ⟨l, hl⟩ : ∃ l, readsL ⟨op, d, a, b, imm⟩ = l := ⟨_, rfl⟩
  have hR := readsL_v op d a b imm hl
  have hc : (spContFI cE3a).fn [.lst false 1 (l.map iv), .fn 113 [.ept (o.map iv)]] = some (.s (.bool (l.any fun r => oAt o r == 2))) := by
    refine contFI_v cE3a_e rfl rfl _ l (by have := reads_len ⟨op, d, a, b, imm⟩; rw [hl] at this; omega) fun r hr => ?_
    have := reads_bd (i := ⟨op, d, a, b, imm⟩) (r := r) (by rw [hl]; exact hr)
    exact spOnE1_v hlen (by omega) (by omega)
  have hc0 : (spContFI cE3a).fn [.s (.slice none 0 0), .fn 113 [.ept (o.map iv)]] = some (.s (.bool false)) := contFI_nil cE3a_e rfl rfl
  refine ⟨by simp [ownV], ?_⟩
  unfold onEB
  rw [hl]
  clear hl
  cases l with
  | nil =>
    simp only [List.isEmpty_nil, if_true] at hR
    simp only [go_sem, seval, eq_self, reduceCtorEq, cE3_at, spReadsL_mv, hR, spContFI_mv, hc0, ownV]
    repeat' ((first | (refine AG_of ?_ ?_ <;> intro h) | (refine AB_of ?_ ?_ <;> intro h) | (refine A_draw_of [] [] (by kernel_rfl) ?_ <;> have h := mark)) <;> simp only [go_sem, seval, eq_self, reduceCtorEq, cE3_at, spReadsL_mv, hR, spContFI_mv, hc0, ownV, h])
    all_goals (first | refine fin_ret ?_ | refine fin_normal ?_)
    all_goals simp only [resOf, Tryz.results85, Tryz.ntmps85, go_sem, seval, eq_self, reduceCtorEq]
    all_goals rfl
  | cons r l =>
    simp only [List.isEmpty_cons, Bool.false_eq_true, if_false, List.map_cons] at hR hc
    simp only [go_sem, seval, eq_self, reduceCtorEq, cE3_at, spReadsL_mv, hR, spContFI_mv, hc, ownV]
    repeat' ((first | (refine AG_of ?_ ?_ <;> intro h) | (refine AB_of ?_ ?_ <;> intro h) | (refine A_draw_of [] [] (by kernel_rfl) ?_ <;> have h := mark)) <;> simp only [go_sem, seval, eq_self, reduceCtorEq, cE3_at, spReadsL_mv, hR, spContFI_mv, hc, ownV, h])
    all_goals (first | refine fin_ret ?_ | refine fin_normal ?_)
    all_goals simp only [resOf, Tryz.results85, Tryz.ntmps85, go_sem, seval, eq_self, reduceCtorEq]

def cE4 : Orc := upd (upd (upd cE3 85 (some spOnA)) 87 (some spSent)) 65 (some spSent)
theorem cE4_ok : ∀ g sp, cE4 g = some sp → Impl Tryz.prog g sp := orc_upd (orc_upd (orc_upd cE3_ok onA_impl) sent_impl) rsent_impl
theorem cE4_at : cE4 85 = some spOnA ∧ cE4 87 = some spSent ∧ cE4 82 = some spOn ∧ cE4 89 = some spSide ∧ cE4 78 = some spForm ∧ cE4 81 = some spRight ∧
    cE4 83 = some spMIns ∧ cE4 84 = some spMReg ∧ cE4 88 = some spMBare ∧ cE4 86 = some spMRegs := ⟨rfl, rfl, rfl, rfl, rfl, rfl, rfl, rfl, rfl, rfl⟩
theorem cE4_rt : cE4 65 = some spSent ∧ cE4 66 = some spOn ∧ cE4 62 = some spSide ∧ cE4 55 = some spForm ∧ cE4 61 = some spRight ∧ cE4 56 = some spROnE ∧ cE4 57 = some spAnyE ∧ cE4 58 = some spReadsL ∧
    cE4 63 = some spRIns ∧ cE4 67 = some spRReg ∧ cE4 68 = some spRPlain ∧ cE4 64 = some spRRegs := ⟨rfl, rfl, rfl, rfl, rfl, rfl, rfl, rfl, rfl, rfl, rfl, rfl⟩

def spA : Spec := ⟨[], fun xs => match xs with
  | [.agg [.s (.int .i64 op), .s (.int .i64 d), .s (.int .i64 a), .s (.int .i64 b), .s (.int .i64 imm)], y, .s (.int .i64 pc), .s (.int .i64 off)] => (ownOf y).bind fun o => some (ownC (aCells ⟨op, d, a, b, imm⟩ o pc off))
  | _ => none⟩
theorem spA_v {o : List Int} (ho : o.length = 16) (op d a b imm pc off : Int) : spA.fn [.agg [.s (.int .i64 op), .s (.int .i64 d), .s (.int .i64 a), .s (.int .i64 b), .s (.int .i64 imm)], .agg (o.map iv), .s (.int .i64 pc), .s (.int .i64 off)] = some (ownC (aCells ⟨op, d, a, b, imm⟩ o pc off)) := by
  have : ownOf (.agg (o.map iv)) = some o := ownOf_v ho
  simp only [spA, this, Option.bind_some]
set_option maxHeartbeats 8000000 in
theorem emitA_impl : Impl Tryz.prog 49 spA := by
  refine impl_walk mixed cE4_ok eqT_ok Tryz.func49 rfl Tryz.ntmps49 (by kernel_rfl) ?_
  intro xs r h
  unfold spA at h
  simp only at h
  (try split at h) <;> try (cases (show none = some r from h); done)
  rename_i op d a b imm y pc off
  obtain ⟨o, ho, h2⟩ := Option.bind_eq_some_iff.1 h
  clear h
  cases h2
  obtain ⟨rfl, hlen⟩ := ownOf_eq ho
  clear ho
  refine ⟨by simp [ownV], ?_⟩
  cases c1 : rightB ⟨op, d, a, b, imm⟩
  · have e : aCells ⟨op, d, a, b, imm⟩ o pc off = [] := by simp [aCells, c1]
    rw [e]
    simp only [go_sem, seval, eq_self, reduceCtorEq, cE4_at, spRight_mv, spRight_fn, spForm_mv, spForm_fn, spOn_mv, spSide_mv, spOnA_mv, spSent_mv, spMIns_mv, spMReg_mv, spMBare_mv, spMRegs_mv, mIns_0, mIns_1, mIns_2, mReg_0, mReg_1, mBare_0, mBare_1, mBare_2, mRegs_0, mRegs_1, mRegs_2, c1, ownV]
    repeat' ((first | (refine AG_of ?_ ?_ <;> intro h) | (refine AB_of ?_ ?_ <;> intro h) | (refine A_draw_of [] [] (by kernel_rfl) ?_ <;> have h := mark)) <;> simp only [go_sem, seval, eq_self, reduceCtorEq, cE4_at, spRight_mv, spRight_fn, spForm_mv, spForm_fn, spOn_mv, spSide_mv, spOnA_mv, spSent_mv, spMIns_mv, spMReg_mv, spMBare_mv, spMRegs_mv, mIns_0, mIns_1, mIns_2, mReg_0, mReg_1, mBare_0, mBare_1, mBare_2, mRegs_0, mRegs_1, mRegs_2, c1, ownV, h])
    all_goals (first | refine fin_ret ?_ | refine fin_normal ?_)
    all_goals simp only [resOf, Tryz.results49, Tryz.ntmps49, go_sem, seval, eq_self, reduceCtorEq, ownC]
  have ht := take_iv hlen
  have hOD := spOn_v hlen d
  have hOB := spOn_v hlen b
  have hSd := side_v hlen op d a b imm
  have hEA := spOnA_v hlen op d a b imm
  have hsl := sent_len ⟨op, d, a, b, imm⟩ o
  have hS := spSent_v hlen op d a b imm
  obtain ⟨s, hs⟩ : ∃ s, sentL ⟨op, d, a, b, imm⟩ o = s := ⟨_, rfl⟩
  rw [hs] at hsl hS
  have hfs := form_cases c1
  simp only at hfs
  rcases hfs with hf | hf | hf | hf | hf | hf | hf | hf
  · cases b1 : (sideI ⟨op, d, a, b, imm⟩ o == 1)
    · have p1 : ¬ sideI ⟨op, d, a, b, imm⟩ o = 1 := by simpa using b1
      have q1 : (sideI ⟨op, d, a, b, imm⟩ o != 1) = true := by simp [p1]
      match s, hsl, hS, hs with
      | [], _, hS, hs =>
        simp only [List.map_cons, List.map_nil, ownOr, List.isEmpty_nil, List.isEmpty_cons, if_true, if_false, Bool.false_eq_true, iv] at hS
        have e : aCells ⟨op, d, a, b, imm⟩ o pc off = [] := by simp [aCells, c1, hf, b1, p1, q1, hs]
        rw [e]
        simp only [go_sem, seval, eq_self, reduceCtorEq, cE4_at, spRight_mv, spRight_fn, spForm_mv, spForm_fn, spOn_mv, spSide_mv, spOnA_mv, spSent_mv, spMIns_mv, spMReg_mv, spMBare_mv, spMRegs_mv, mIns_0, mIns_1, mIns_2, mReg_0, mReg_1, mBare_0, mBare_1, mBare_2, mRegs_0, mRegs_1, mRegs_2, c1, hf, hOD, hOB, hSd, hEA, hS, ht, hlen, List.length_map, nest, ownV, c1, hf, b1, p1, q1, hs]
        repeat' ((first | (refine AG_of ?_ ?_ <;> intro h) | (refine AB_of ?_ ?_ <;> intro h) | (refine A_draw_of [] [] (by kernel_rfl) ?_ <;> have h := mark)) <;> simp only [go_sem, seval, eq_self, reduceCtorEq, cE4_at, spRight_mv, spRight_fn, spForm_mv, spForm_fn, spOn_mv, spSide_mv, spOnA_mv, spSent_mv, spMIns_mv, spMReg_mv, spMBare_mv, spMRegs_mv, mIns_0, mIns_1, mIns_2, mReg_0, mReg_1, mBare_0, mBare_1, mBare_2, mRegs_0, mRegs_1, mRegs_2, c1, hf, hOD, hOB, hSd, hEA, hS, ht, hlen, List.length_map, nest, ownV, c1, hf, b1, p1, q1, hs, h])
        all_goals (first | refine fin_ret ?_ | refine fin_normal ?_)
        all_goals simp only [resOf, Tryz.results49, Tryz.ntmps49, go_sem, seval, eq_self, reduceCtorEq, nest, ownC, cI, cR, cB, insZ, Cell.v]
      | [r], _, hS, hs =>
        simp only [List.map_cons, List.map_nil, ownOr, List.isEmpty_nil, List.isEmpty_cons, if_true, if_false, Bool.false_eq_true, iv] at hS
        have e : aCells ⟨op, d, a, b, imm⟩ o pc off = [cR 5 r pc off] := by simp [aCells, c1, hf, b1, p1, q1, hs]
        rw [e]
        simp only [go_sem, seval, eq_self, reduceCtorEq, cE4_at, spRight_mv, spRight_fn, spForm_mv, spForm_fn, spOn_mv, spSide_mv, spOnA_mv, spSent_mv, spMIns_mv, spMReg_mv, spMBare_mv, spMRegs_mv, mIns_0, mIns_1, mIns_2, mReg_0, mReg_1, mBare_0, mBare_1, mBare_2, mRegs_0, mRegs_1, mRegs_2, c1, hf, hOD, hOB, hSd, hEA, hS, ht, hlen, List.length_map, nest, ownV, c1, hf, b1, p1, q1, hs]
        repeat' ((first | (refine AG_of ?_ ?_ <;> intro h) | (refine AB_of ?_ ?_ <;> intro h) | (refine A_draw_of [] [] (by kernel_rfl) ?_ <;> have h := mark)) <;> simp only [go_sem, seval, eq_self, reduceCtorEq, cE4_at, spRight_mv, spRight_fn, spForm_mv, spForm_fn, spOn_mv, spSide_mv, spOnA_mv, spSent_mv, spMIns_mv, spMReg_mv, spMBare_mv, spMRegs_mv, mIns_0, mIns_1, mIns_2, mReg_0, mReg_1, mBare_0, mBare_1, mBare_2, mRegs_0, mRegs_1, mRegs_2, c1, hf, hOD, hOB, hSd, hEA, hS, ht, hlen, List.length_map, nest, ownV, c1, hf, b1, p1, q1, hs, h])
        all_goals (first | refine fin_ret ?_ | refine fin_normal ?_)
        all_goals simp only [resOf, Tryz.results49, Tryz.ntmps49, go_sem, seval, eq_self, reduceCtorEq, nest, ownC, cI, cR, cB, insZ, Cell.v]
      | [r, r'], _, hS, hs =>
        simp only [List.map_cons, List.map_nil, ownOr, List.isEmpty_nil, List.isEmpty_cons, if_true, if_false, Bool.false_eq_true, iv] at hS
        have e : aCells ⟨op, d, a, b, imm⟩ o pc off = [cR 5 r pc off, cR 5 r' pc off] := by simp [aCells, c1, hf, b1, p1, q1, hs]
        rw [e]
        simp only [go_sem, seval, eq_self, reduceCtorEq, cE4_at, spRight_mv, spRight_fn, spForm_mv, spForm_fn, spOn_mv, spSide_mv, spOnA_mv, spSent_mv, spMIns_mv, spMReg_mv, spMBare_mv, spMRegs_mv, mIns_0, mIns_1, mIns_2, mReg_0, mReg_1, mBare_0, mBare_1, mBare_2, mRegs_0, mRegs_1, mRegs_2, c1, hf, hOD, hOB, hSd, hEA, hS, ht, hlen, List.length_map, nest, ownV, c1, hf, b1, p1, q1, hs]
        repeat' ((first | (refine AG_of ?_ ?_ <;> intro h) | (refine AB_of ?_ ?_ <;> intro h) | (refine A_draw_of [] [] (by kernel_rfl) ?_ <;> have h := mark)) <;> simp only [go_sem, seval, eq_self, reduceCtorEq, cE4_at, spRight_mv, spRight_fn, spForm_mv, spForm_fn, spOn_mv, spSide_mv, spOnA_mv, spSent_mv, spMIns_mv, spMReg_mv, spMBare_mv, spMRegs_mv, mIns_0, mIns_1, mIns_2, mReg_0, mReg_1, mBare_0, mBare_1, mBare_2, mRegs_0, mRegs_1, mRegs_2, c1, hf, hOD, hOB, hSd, hEA, hS, ht, hlen, List.length_map, nest, ownV, c1, hf, b1, p1, q1, hs, h])
        all_goals (first | refine fin_ret ?_ | refine fin_normal ?_)
        all_goals simp only [resOf, Tryz.results49, Tryz.ntmps49, go_sem, seval, eq_self, reduceCtorEq, nest, ownC, cI, cR, cB, insZ, Cell.v]
    · have p1 : sideI ⟨op, d, a, b, imm⟩ o = 1 := by simpa using b1
      have q1 : (sideI ⟨op, d, a, b, imm⟩ o != 1) = false := by simp [p1]
      have e : aCells ⟨op, d, a, b, imm⟩ o pc off = [cI 1 ⟨op, d, a, b, imm⟩ pc off] := by simp [aCells, c1, hf, b1, p1, q1]
      rw [e]
      simp only [go_sem, seval, eq_self, reduceCtorEq, cE4_at, spRight_mv, spRight_fn, spForm_mv, spForm_fn, spOn_mv, spSide_mv, spOnA_mv, spSent_mv, spMIns_mv, spMReg_mv, spMBare_mv, spMRegs_mv, mIns_0, mIns_1, mIns_2, mReg_0, mReg_1, mBare_0, mBare_1, mBare_2, mRegs_0, mRegs_1, mRegs_2, c1, hf, hOD, hOB, hSd, hEA, hS, ht, hlen, List.length_map, nest, ownV, c1, hf, b1, p1, q1]
      repeat' ((first | (refine AG_of ?_ ?_ <;> intro h) | (refine AB_of ?_ ?_ <;> intro h) | (refine A_draw_of [] [] (by kernel_rfl) ?_ <;> have h := mark)) <;> simp only [go_sem, seval, eq_self, reduceCtorEq, cE4_at, spRight_mv, spRight_fn, spForm_mv, spForm_fn, spOn_mv, spSide_mv, spOnA_mv, spSent_mv, spMIns_mv, spMReg_mv, spMBare_mv, spMRegs_mv, mIns_0, mIns_1, mIns_2, mReg_0, mReg_1, mBare_0, mBare_1, mBare_2, mRegs_0, mRegs_1, mRegs_2, c1, hf, hOD, hOB, hSd, hEA, hS, ht, hlen, List.length_map, nest, ownV, c1, hf, b1, p1, q1, h])
      all_goals (first | refine fin_ret ?_ | refine fin_normal ?_)
      all_goals simp only [resOf, Tryz.results49, Tryz.ntmps49, go_sem, seval, eq_self, reduceCtorEq, nest, ownC, cI, cR, cB, insZ, Cell.v]
  · cases b1 : (sideI ⟨op, d, a, b, imm⟩ o == 1)
    · have p1 : ¬ sideI ⟨op, d, a, b, imm⟩ o = 1 := by simpa using b1
      have q1 : (sideI ⟨op, d, a, b, imm⟩ o != 1) = true := by simp [p1]
      match s, hsl, hS, hs with
      | [], _, hS, hs =>
        simp only [List.map_cons, List.map_nil, ownOr, List.isEmpty_nil, List.isEmpty_cons, if_true, if_false, Bool.false_eq_true, iv] at hS
        have e : aCells ⟨op, d, a, b, imm⟩ o pc off = [] := by simp [aCells, c1, hf, b1, p1, q1, hs]
        rw [e]
        simp only [go_sem, seval, eq_self, reduceCtorEq, cE4_at, spRight_mv, spRight_fn, spForm_mv, spForm_fn, spOn_mv, spSide_mv, spOnA_mv, spSent_mv, spMIns_mv, spMReg_mv, spMBare_mv, spMRegs_mv, mIns_0, mIns_1, mIns_2, mReg_0, mReg_1, mBare_0, mBare_1, mBare_2, mRegs_0, mRegs_1, mRegs_2, c1, hf, hOD, hOB, hSd, hEA, hS, ht, hlen, List.length_map, nest, ownV, c1, hf, b1, p1, q1, hs]
        repeat' ((first | (refine AG_of ?_ ?_ <;> intro h) | (refine AB_of ?_ ?_ <;> intro h) | (refine A_draw_of [] [] (by kernel_rfl) ?_ <;> have h := mark)) <;> simp only [go_sem, seval, eq_self, reduceCtorEq, cE4_at, spRight_mv, spRight_fn, spForm_mv, spForm_fn, spOn_mv, spSide_mv, spOnA_mv, spSent_mv, spMIns_mv, spMReg_mv, spMBare_mv, spMRegs_mv, mIns_0, mIns_1, mIns_2, mReg_0, mReg_1, mBare_0, mBare_1, mBare_2, mRegs_0, mRegs_1, mRegs_2, c1, hf, hOD, hOB, hSd, hEA, hS, ht, hlen, List.length_map, nest, ownV, c1, hf, b1, p1, q1, hs, h])
        all_goals (first | refine fin_ret ?_ | refine fin_normal ?_)
        all_goals simp only [resOf, Tryz.results49, Tryz.ntmps49, go_sem, seval, eq_self, reduceCtorEq, nest, ownC, cI, cR, cB, insZ, Cell.v]
      | [r], _, hS, hs =>
        simp only [List.map_cons, List.map_nil, ownOr, List.isEmpty_nil, List.isEmpty_cons, if_true, if_false, Bool.false_eq_true, iv] at hS
        have e : aCells ⟨op, d, a, b, imm⟩ o pc off = [cR 5 r pc off] := by simp [aCells, c1, hf, b1, p1, q1, hs]
        rw [e]
        simp only [go_sem, seval, eq_self, reduceCtorEq, cE4_at, spRight_mv, spRight_fn, spForm_mv, spForm_fn, spOn_mv, spSide_mv, spOnA_mv, spSent_mv, spMIns_mv, spMReg_mv, spMBare_mv, spMRegs_mv, mIns_0, mIns_1, mIns_2, mReg_0, mReg_1, mBare_0, mBare_1, mBare_2, mRegs_0, mRegs_1, mRegs_2, c1, hf, hOD, hOB, hSd, hEA, hS, ht, hlen, List.length_map, nest, ownV, c1, hf, b1, p1, q1, hs]
        repeat' ((first | (refine AG_of ?_ ?_ <;> intro h) | (refine AB_of ?_ ?_ <;> intro h) | (refine A_draw_of [] [] (by kernel_rfl) ?_ <;> have h := mark)) <;> simp only [go_sem, seval, eq_self, reduceCtorEq, cE4_at, spRight_mv, spRight_fn, spForm_mv, spForm_fn, spOn_mv, spSide_mv, spOnA_mv, spSent_mv, spMIns_mv, spMReg_mv, spMBare_mv, spMRegs_mv, mIns_0, mIns_1, mIns_2, mReg_0, mReg_1, mBare_0, mBare_1, mBare_2, mRegs_0, mRegs_1, mRegs_2, c1, hf, hOD, hOB, hSd, hEA, hS, ht, hlen, List.length_map, nest, ownV, c1, hf, b1, p1, q1, hs, h])
        all_goals (first | refine fin_ret ?_ | refine fin_normal ?_)
        all_goals simp only [resOf, Tryz.results49, Tryz.ntmps49, go_sem, seval, eq_self, reduceCtorEq, nest, ownC, cI, cR, cB, insZ, Cell.v]
      | [r, r'], _, hS, hs =>
        simp only [List.map_cons, List.map_nil, ownOr, List.isEmpty_nil, List.isEmpty_cons, if_true, if_false, Bool.false_eq_true, iv] at hS
        have e : aCells ⟨op, d, a, b, imm⟩ o pc off = [cR 5 r pc off, cR 5 r' pc off] := by simp [aCells, c1, hf, b1, p1, q1, hs]
        rw [e]
        simp only [go_sem, seval, eq_self, reduceCtorEq, cE4_at, spRight_mv, spRight_fn, spForm_mv, spForm_fn, spOn_mv, spSide_mv, spOnA_mv, spSent_mv, spMIns_mv, spMReg_mv, spMBare_mv, spMRegs_mv, mIns_0, mIns_1, mIns_2, mReg_0, mReg_1, mBare_0, mBare_1, mBare_2, mRegs_0, mRegs_1, mRegs_2, c1, hf, hOD, hOB, hSd, hEA, hS, ht, hlen, List.length_map, nest, ownV, c1, hf, b1, p1, q1, hs]
        repeat' ((first | (refine AG_of ?_ ?_ <;> intro h) | (refine AB_of ?_ ?_ <;> intro h) | (refine A_draw_of [] [] (by kernel_rfl) ?_ <;> have h := mark)) <;> simp only [go_sem, seval, eq_self, reduceCtorEq, cE4_at, spRight_mv, spRight_fn, spForm_mv, spForm_fn, spOn_mv, spSide_mv, spOnA_mv, spSent_mv, spMIns_mv, spMReg_mv, spMBare_mv, spMRegs_mv, mIns_0, mIns_1, mIns_2, mReg_0, mReg_1, mBare_0, mBare_1, mBare_2, mRegs_0, mRegs_1, mRegs_2, c1, hf, hOD, hOB, hSd, hEA, hS, ht, hlen, List.length_map, nest, ownV, c1, hf, b1, p1, q1, hs, h])
        all_goals (first | refine fin_ret ?_ | refine fin_normal ?_)
        all_goals simp only [resOf, Tryz.results49, Tryz.ntmps49, go_sem, seval, eq_self, reduceCtorEq, nest, ownC, cI, cR, cB, insZ, Cell.v]
    · have p1 : sideI ⟨op, d, a, b, imm⟩ o = 1 := by simpa using b1
      have q1 : (sideI ⟨op, d, a, b, imm⟩ o != 1) = false := by simp [p1]
      have e : aCells ⟨op, d, a, b, imm⟩ o pc off = [cI 1 ⟨op, d, a, b, imm⟩ pc off] := by simp [aCells, c1, hf, b1, p1, q1]
      rw [e]
      simp only [go_sem, seval, eq_self, reduceCtorEq, cE4_at, spRight_mv, spRight_fn, spForm_mv, spForm_fn, spOn_mv, spSide_mv, spOnA_mv, spSent_mv, spMIns_mv, spMReg_mv, spMBare_mv, spMRegs_mv, mIns_0, mIns_1, mIns_2, mReg_0, mReg_1, mBare_0, mBare_1, mBare_2, mRegs_0, mRegs_1, mRegs_2, c1, hf, hOD, hOB, hSd, hEA, hS, ht, hlen, List.length_map, nest, ownV, c1, hf, b1, p1, q1]
      repeat' ((first | (refine AG_of ?_ ?_ <;> intro h) | (refine AB_of ?_ ?_ <;> intro h) | (refine A_draw_of [] [] (by kernel_rfl) ?_ <;> have h := mark)) <;> simp only [go_sem, seval, eq_self, reduceCtorEq, cE4_at, spRight_mv, spRight_fn, spForm_mv, spForm_fn, spOn_mv, spSide_mv, spOnA_mv, spSent_mv, spMIns_mv, spMReg_mv, spMBare_mv, spMRegs_mv, mIns_0, mIns_1, mIns_2, mReg_0, mReg_1, mBare_0, mBare_1, mBare_2, mRegs_0, mRegs_1, mRegs_2, c1, hf, hOD, hOB, hSd, hEA, hS, ht, hlen, List.length_map, nest, ownV, c1, hf, b1, p1, q1, h])
      all_goals (first | refine fin_ret ?_ | refine fin_normal ?_)
      all_goals simp only [resOf, Tryz.results49, Tryz.ntmps49, go_sem, seval, eq_self, reduceCtorEq, nest, ownC, cI, cR, cB, insZ, Cell.v]
  · cases b1 : (sideI ⟨op, d, a, b, imm⟩ o == 1)
    · have p1 : ¬ sideI ⟨op, d, a, b, imm⟩ o = 1 := by simpa using b1
      have q1 : (sideI ⟨op, d, a, b, imm⟩ o != 1) = true := by simp [p1]
      match s, hsl, hS, hs with
      | [], _, hS, hs =>
        simp only [List.map_cons, List.map_nil, ownOr, List.isEmpty_nil, List.isEmpty_cons, if_true, if_false, Bool.false_eq_true, iv] at hS
        have e : aCells ⟨op, d, a, b, imm⟩ o pc off = [] := by simp [aCells, c1, hf, b1, p1, q1, hs]
        rw [e]
        simp only [go_sem, seval, eq_self, reduceCtorEq, cE4_at, spRight_mv, spRight_fn, spForm_mv, spForm_fn, spOn_mv, spSide_mv, spOnA_mv, spSent_mv, spMIns_mv, spMReg_mv, spMBare_mv, spMRegs_mv, mIns_0, mIns_1, mIns_2, mReg_0, mReg_1, mBare_0, mBare_1, mBare_2, mRegs_0, mRegs_1, mRegs_2, c1, hf, hOD, hOB, hSd, hEA, hS, ht, hlen, List.length_map, nest, ownV, c1, hf, b1, p1, q1, hs]
        repeat' ((first | (refine AG_of ?_ ?_ <;> intro h) | (refine AB_of ?_ ?_ <;> intro h) | (refine A_draw_of [] [] (by kernel_rfl) ?_ <;> have h := mark)) <;> simp only [go_sem, seval, eq_self, reduceCtorEq, cE4_at, spRight_mv, spRight_fn, spForm_mv, spForm_fn, spOn_mv, spSide_mv, spOnA_mv, spSent_mv, spMIns_mv, spMReg_mv, spMBare_mv, spMRegs_mv, mIns_0, mIns_1, mIns_2, mReg_0, mReg_1, mBare_0, mBare_1, mBare_2, mRegs_0, mRegs_1, mRegs_2, c1, hf, hOD, hOB, hSd, hEA, hS, ht, hlen, List.length_map, nest, ownV, c1, hf, b1, p1, q1, hs, h])
        all_goals (first | refine fin_ret ?_ | refine fin_normal ?_)
        all_goals simp only [resOf, Tryz.results49, Tryz.ntmps49, go_sem, seval, eq_self, reduceCtorEq, nest, ownC, cI, cR, cB, insZ, Cell.v]
      | [r], _, hS, hs =>
        simp only [List.map_cons, List.map_nil, ownOr, List.isEmpty_nil, List.isEmpty_cons, if_true, if_false, Bool.false_eq_true, iv] at hS
        have e : aCells ⟨op, d, a, b, imm⟩ o pc off = [cR 5 r pc off] := by simp [aCells, c1, hf, b1, p1, q1, hs]
        rw [e]
        simp only [go_sem, seval, eq_self, reduceCtorEq, cE4_at, spRight_mv, spRight_fn, spForm_mv, spForm_fn, spOn_mv, spSide_mv, spOnA_mv, spSent_mv, spMIns_mv, spMReg_mv, spMBare_mv, spMRegs_mv, mIns_0, mIns_1, mIns_2, mReg_0, mReg_1, mBare_0, mBare_1, mBare_2, mRegs_0, mRegs_1, mRegs_2, c1, hf, hOD, hOB, hSd, hEA, hS, ht, hlen, List.length_map, nest, ownV, c1, hf, b1, p1, q1, hs]
        repeat' ((first | (refine AG_of ?_ ?_ <;> intro h) | (refine AB_of ?_ ?_ <;> intro h) | (refine A_draw_of [] [] (by kernel_rfl) ?_ <;> have h := mark)) <;> simp only [go_sem, seval, eq_self, reduceCtorEq, cE4_at, spRight_mv, spRight_fn, spForm_mv, spForm_fn, spOn_mv, spSide_mv, spOnA_mv, spSent_mv, spMIns_mv, spMReg_mv, spMBare_mv, spMRegs_mv, mIns_0, mIns_1, mIns_2, mReg_0, mReg_1, mBare_0, mBare_1, mBare_2, mRegs_0, mRegs_1, mRegs_2, c1, hf, hOD, hOB, hSd, hEA, hS, ht, hlen, List.length_map, nest, ownV, c1, hf, b1, p1, q1, hs, h])
        all_goals (first | refine fin_ret ?_ | refine fin_normal ?_)
        all_goals simp only [resOf, Tryz.results49, Tryz.ntmps49, go_sem, seval, eq_self, reduceCtorEq, nest, ownC, cI, cR, cB, insZ, Cell.v]
      | [r, r'], _, hS, hs =>
        simp only [List.map_cons, List.map_nil, ownOr, List.isEmpty_nil, List.isEmpty_cons, if_true, if_false, Bool.false_eq_true, iv] at hS
        have e : aCells ⟨op, d, a, b, imm⟩ o pc off = [cR 5 r pc off, cR 5 r' pc off] := by simp [aCells, c1, hf, b1, p1, q1, hs]
        rw [e]
        simp only [go_sem, seval, eq_self, reduceCtorEq, cE4_at, spRight_mv, spRight_fn, spForm_mv, spForm_fn, spOn_mv, spSide_mv, spOnA_mv, spSent_mv, spMIns_mv, spMReg_mv, spMBare_mv, spMRegs_mv, mIns_0, mIns_1, mIns_2, mReg_0, mReg_1, mBare_0, mBare_1, mBare_2, mRegs_0, mRegs_1, mRegs_2, c1, hf, hOD, hOB, hSd, hEA, hS, ht, hlen, List.length_map, nest, ownV, c1, hf, b1, p1, q1, hs]
        repeat' ((first | (refine AG_of ?_ ?_ <;> intro h) | (refine AB_of ?_ ?_ <;> intro h) | (refine A_draw_of [] [] (by kernel_rfl) ?_ <;> have h := mark)) <;> simp only [go_sem, seval, eq_self, reduceCtorEq, cE4_at, spRight_mv, spRight_fn, spForm_mv, spForm_fn, spOn_mv, spSide_mv, spOnA_mv, spSent_mv, spMIns_mv, spMReg_mv, spMBare_mv, spMRegs_mv, mIns_0, mIns_1, mIns_2, mReg_0, mReg_1, mBare_0, mBare_1, mBare_2, mRegs_0, mRegs_1, mRegs_2, c1, hf, hOD, hOB, hSd, hEA, hS, ht, hlen, List.length_map, nest, ownV, c1, hf, b1, p1, q1, hs, h])
        all_goals (first | refine fin_ret ?_ | refine fin_normal ?_)
        all_goals simp only [resOf, Tryz.results49, Tryz.ntmps49, go_sem, seval, eq_self, reduceCtorEq, nest, ownC, cI, cR, cB, insZ, Cell.v]
    · have p1 : sideI ⟨op, d, a, b, imm⟩ o = 1 := by simpa using b1
      have q1 : (sideI ⟨op, d, a, b, imm⟩ o != 1) = false := by simp [p1]
      have e : aCells ⟨op, d, a, b, imm⟩ o pc off = [cI 1 ⟨op, d, a, b, imm⟩ pc off] := by simp [aCells, c1, hf, b1, p1, q1]
      rw [e]
      simp only [go_sem, seval, eq_self, reduceCtorEq, cE4_at, spRight_mv, spRight_fn, spForm_mv, spForm_fn, spOn_mv, spSide_mv, spOnA_mv, spSent_mv, spMIns_mv, spMReg_mv, spMBare_mv, spMRegs_mv, mIns_0, mIns_1, mIns_2, mReg_0, mReg_1, mBare_0, mBare_1, mBare_2, mRegs_0, mRegs_1, mRegs_2, c1, hf, hOD, hOB, hSd, hEA, hS, ht, hlen, List.length_map, nest, ownV, c1, hf, b1, p1, q1]
      repeat' ((first | (refine AG_of ?_ ?_ <;> intro h) | (refine AB_of ?_ ?_ <;> intro h) | (refine A_draw_of [] [] (by kernel_rfl) ?_ <;> have h := mark)) <;> simp only [go_sem, seval, eq_self, reduceCtorEq, cE4_at, spRight_mv, spRight_fn, spForm_mv, spForm_fn, spOn_mv, spSide_mv, spOnA_mv, spSent_mv, spMIns_mv, spMReg_mv, spMBare_mv, spMRegs_mv, mIns_0, mIns_1, mIns_2, mReg_0, mReg_1, mBare_0, mBare_1, mBare_2, mRegs_0, mRegs_1, mRegs_2, c1, hf, hOD, hOB, hSd, hEA, hS, ht, hlen, List.length_map, nest, ownV, c1, hf, b1, p1, q1, h])
      all_goals (first | refine fin_ret ?_ | refine fin_normal ?_)
      all_goals simp only [resOf, Tryz.results49, Tryz.ntmps49, go_sem, seval, eq_self, reduceCtorEq, nest, ownC, cI, cR, cB, insZ, Cell.v]
  · cases b1 : (onI o d == 2)
    · have p1 : ¬ onI o d = 2 := by simpa using b1
      have e : aCells ⟨op, d, a, b, imm⟩ o pc off = [cI 2 ⟨op, d, a, b, imm⟩ pc off] := by simp [aCells, c1, hf, b1, p1]
      rw [e]
      simp only [go_sem, seval, eq_self, reduceCtorEq, cE4_at, spRight_mv, spRight_fn, spForm_mv, spForm_fn, spOn_mv, spSide_mv, spOnA_mv, spSent_mv, spMIns_mv, spMReg_mv, spMBare_mv, spMRegs_mv, mIns_0, mIns_1, mIns_2, mReg_0, mReg_1, mBare_0, mBare_1, mBare_2, mRegs_0, mRegs_1, mRegs_2, c1, hf, hOD, hOB, hSd, hEA, hS, ht, hlen, List.length_map, nest, ownV, c1, hf, b1, p1]
      repeat' ((first | (refine AG_of ?_ ?_ <;> intro h) | (refine AB_of ?_ ?_ <;> intro h) | (refine A_draw_of [] [] (by kernel_rfl) ?_ <;> have h := mark)) <;> simp only [go_sem, seval, eq_self, reduceCtorEq, cE4_at, spRight_mv, spRight_fn, spForm_mv, spForm_fn, spOn_mv, spSide_mv, spOnA_mv, spSent_mv, spMIns_mv, spMReg_mv, spMBare_mv, spMRegs_mv, mIns_0, mIns_1, mIns_2, mReg_0, mReg_1, mBare_0, mBare_1, mBare_2, mRegs_0, mRegs_1, mRegs_2, c1, hf, hOD, hOB, hSd, hEA, hS, ht, hlen, List.length_map, nest, ownV, c1, hf, b1, p1, h])
      all_goals (first | refine fin_ret ?_ | refine fin_normal ?_)
      all_goals simp only [resOf, Tryz.results49, Tryz.ntmps49, go_sem, seval, eq_self, reduceCtorEq, nest, ownC, cI, cR, cB, insZ, Cell.v]
    · have p1 : onI o d = 2 := by simpa using b1
      have e : aCells ⟨op, d, a, b, imm⟩ o pc off = [cI 3 ⟨op, d, a, b, imm⟩ pc off] := by simp [aCells, c1, hf, b1, p1]
      rw [e]
      simp only [go_sem, seval, eq_self, reduceCtorEq, cE4_at, spRight_mv, spRight_fn, spForm_mv, spForm_fn, spOn_mv, spSide_mv, spOnA_mv, spSent_mv, spMIns_mv, spMReg_mv, spMBare_mv, spMRegs_mv, mIns_0, mIns_1, mIns_2, mReg_0, mReg_1, mBare_0, mBare_1, mBare_2, mRegs_0, mRegs_1, mRegs_2, c1, hf, hOD, hOB, hSd, hEA, hS, ht, hlen, List.length_map, nest, ownV, c1, hf, b1, p1]
      repeat' ((first | (refine AG_of ?_ ?_ <;> intro h) | (refine AB_of ?_ ?_ <;> intro h) | (refine A_draw_of [] [] (by kernel_rfl) ?_ <;> have h := mark)) <;> simp only [go_sem, seval, eq_self, reduceCtorEq, cE4_at, spRight_mv, spRight_fn, spForm_mv, spForm_fn, spOn_mv, spSide_mv, spOnA_mv, spSent_mv, spMIns_mv, spMReg_mv, spMBare_mv, spMRegs_mv, mIns_0, mIns_1, mIns_2, mReg_0, mReg_1, mBare_0, mBare_1, mBare_2, mRegs_0, mRegs_1, mRegs_2, c1, hf, hOD, hOB, hSd, hEA, hS, ht, hlen, List.length_map, nest, ownV, c1, hf, b1, p1, h])
      all_goals (first | refine fin_ret ?_ | refine fin_normal ?_)
      all_goals simp only [resOf, Tryz.results49, Tryz.ntmps49, go_sem, seval, eq_self, reduceCtorEq, nest, ownC, cI, cR, cB, insZ, Cell.v]
  · cases b1 : (onI o b == 1)
    · have p1 : ¬ onI o b = 1 := by simpa using b1
      have e : aCells ⟨op, d, a, b, imm⟩ o pc off = [cI 4 ⟨op, d, a, b, imm⟩ pc off] := by simp [aCells, c1, hf, b1, p1]
      rw [e]
      simp only [go_sem, seval, eq_self, reduceCtorEq, cE4_at, spRight_mv, spRight_fn, spForm_mv, spForm_fn, spOn_mv, spSide_mv, spOnA_mv, spSent_mv, spMIns_mv, spMReg_mv, spMBare_mv, spMRegs_mv, mIns_0, mIns_1, mIns_2, mReg_0, mReg_1, mBare_0, mBare_1, mBare_2, mRegs_0, mRegs_1, mRegs_2, c1, hf, hOD, hOB, hSd, hEA, hS, ht, hlen, List.length_map, nest, ownV, c1, hf, b1, p1]
      repeat' ((first | (refine AG_of ?_ ?_ <;> intro h) | (refine AB_of ?_ ?_ <;> intro h) | (refine A_draw_of [] [] (by kernel_rfl) ?_ <;> have h := mark)) <;> simp only [go_sem, seval, eq_self, reduceCtorEq, cE4_at, spRight_mv, spRight_fn, spForm_mv, spForm_fn, spOn_mv, spSide_mv, spOnA_mv, spSent_mv, spMIns_mv, spMReg_mv, spMBare_mv, spMRegs_mv, mIns_0, mIns_1, mIns_2, mReg_0, mReg_1, mBare_0, mBare_1, mBare_2, mRegs_0, mRegs_1, mRegs_2, c1, hf, hOD, hOB, hSd, hEA, hS, ht, hlen, List.length_map, nest, ownV, c1, hf, b1, p1, h])
      all_goals (first | refine fin_ret ?_ | refine fin_normal ?_)
      all_goals simp only [resOf, Tryz.results49, Tryz.ntmps49, go_sem, seval, eq_self, reduceCtorEq, nest, ownC, cI, cR, cB, insZ, Cell.v]
    · have p1 : onI o b = 1 := by simpa using b1
      have e : aCells ⟨op, d, a, b, imm⟩ o pc off = [cR 5 b pc off, cI 4 ⟨op, d, a, b, imm⟩ pc off] := by simp [aCells, c1, hf, b1, p1]
      rw [e]
      simp only [go_sem, seval, eq_self, reduceCtorEq, cE4_at, spRight_mv, spRight_fn, spForm_mv, spForm_fn, spOn_mv, spSide_mv, spOnA_mv, spSent_mv, spMIns_mv, spMReg_mv, spMBare_mv, spMRegs_mv, mIns_0, mIns_1, mIns_2, mReg_0, mReg_1, mBare_0, mBare_1, mBare_2, mRegs_0, mRegs_1, mRegs_2, c1, hf, hOD, hOB, hSd, hEA, hS, ht, hlen, List.length_map, nest, ownV, c1, hf, b1, p1]
      repeat' ((first | (refine AG_of ?_ ?_ <;> intro h) | (refine AB_of ?_ ?_ <;> intro h) | (refine A_draw_of [] [] (by kernel_rfl) ?_ <;> have h := mark)) <;> simp only [go_sem, seval, eq_self, reduceCtorEq, cE4_at, spRight_mv, spRight_fn, spForm_mv, spForm_fn, spOn_mv, spSide_mv, spOnA_mv, spSent_mv, spMIns_mv, spMReg_mv, spMBare_mv, spMRegs_mv, mIns_0, mIns_1, mIns_2, mReg_0, mReg_1, mBare_0, mBare_1, mBare_2, mRegs_0, mRegs_1, mRegs_2, c1, hf, hOD, hOB, hSd, hEA, hS, ht, hlen, List.length_map, nest, ownV, c1, hf, b1, p1, h])
      all_goals (first | refine fin_ret ?_ | refine fin_normal ?_)
      all_goals simp only [resOf, Tryz.results49, Tryz.ntmps49, go_sem, seval, eq_self, reduceCtorEq, nest, ownC, cI, cR, cB, insZ, Cell.v]
  · cases b1 : onEB ⟨op, d, a, b, imm⟩ o
    ·
      have e : aCells ⟨op, d, a, b, imm⟩ o pc off = [cI 9 ⟨op, d, a, b, imm⟩ pc off] := by simp [aCells, c1, hf, b1]
      rw [e]
      simp only [go_sem, seval, eq_self, reduceCtorEq, cE4_at, spRight_mv, spRight_fn, spForm_mv, spForm_fn, spOn_mv, spSide_mv, spOnA_mv, spSent_mv, spMIns_mv, spMReg_mv, spMBare_mv, spMRegs_mv, mIns_0, mIns_1, mIns_2, mReg_0, mReg_1, mBare_0, mBare_1, mBare_2, mRegs_0, mRegs_1, mRegs_2, c1, hf, hOD, hOB, hSd, hEA, hS, ht, hlen, List.length_map, nest, ownV, c1, hf, b1]
      repeat' ((first | (refine AG_of ?_ ?_ <;> intro h) | (refine AB_of ?_ ?_ <;> intro h) | (refine A_draw_of [] [] (by kernel_rfl) ?_ <;> have h := mark)) <;> simp only [go_sem, seval, eq_self, reduceCtorEq, cE4_at, spRight_mv, spRight_fn, spForm_mv, spForm_fn, spOn_mv, spSide_mv, spOnA_mv, spSent_mv, spMIns_mv, spMReg_mv, spMBare_mv, spMRegs_mv, mIns_0, mIns_1, mIns_2, mReg_0, mReg_1, mBare_0, mBare_1, mBare_2, mRegs_0, mRegs_1, mRegs_2, c1, hf, hOD, hOB, hSd, hEA, hS, ht, hlen, List.length_map, nest, ownV, c1, hf, b1, h])
      all_goals (first | refine fin_ret ?_ | refine fin_normal ?_)
      all_goals simp only [resOf, Tryz.results49, Tryz.ntmps49, go_sem, seval, eq_self, reduceCtorEq, nest, ownC, cI, cR, cB, insZ, Cell.v]
    ·
      match s, hsl, hS, hs with
      | [], _, hS, hs =>
        simp only [List.map_cons, List.map_nil, ownOr, List.isEmpty_nil, List.isEmpty_cons, if_true, if_false, Bool.false_eq_true, iv] at hS
        have e : aCells ⟨op, d, a, b, imm⟩ o pc off = [cB 10 pc off] := by simp [aCells, c1, hf, b1, hs]
        rw [e]
        simp only [go_sem, seval, eq_self, reduceCtorEq, cE4_at, spRight_mv, spRight_fn, spForm_mv, spForm_fn, spOn_mv, spSide_mv, spOnA_mv, spSent_mv, spMIns_mv, spMReg_mv, spMBare_mv, spMRegs_mv, mIns_0, mIns_1, mIns_2, mReg_0, mReg_1, mBare_0, mBare_1, mBare_2, mRegs_0, mRegs_1, mRegs_2, c1, hf, hOD, hOB, hSd, hEA, hS, ht, hlen, List.length_map, nest, ownV, c1, hf, b1, hs]
        repeat' ((first | (refine AG_of ?_ ?_ <;> intro h) | (refine AB_of ?_ ?_ <;> intro h) | (refine A_draw_of [] [] (by kernel_rfl) ?_ <;> have h := mark)) <;> simp only [go_sem, seval, eq_self, reduceCtorEq, cE4_at, spRight_mv, spRight_fn, spForm_mv, spForm_fn, spOn_mv, spSide_mv, spOnA_mv, spSent_mv, spMIns_mv, spMReg_mv, spMBare_mv, spMRegs_mv, mIns_0, mIns_1, mIns_2, mReg_0, mReg_1, mBare_0, mBare_1, mBare_2, mRegs_0, mRegs_1, mRegs_2, c1, hf, hOD, hOB, hSd, hEA, hS, ht, hlen, List.length_map, nest, ownV, c1, hf, b1, hs, h])
        all_goals (first | refine fin_ret ?_ | refine fin_normal ?_)
        all_goals simp only [resOf, Tryz.results49, Tryz.ntmps49, go_sem, seval, eq_self, reduceCtorEq, nest, ownC, cI, cR, cB, insZ, Cell.v]
      | [r], _, hS, hs =>
        simp only [List.map_cons, List.map_nil, ownOr, List.isEmpty_nil, List.isEmpty_cons, if_true, if_false, Bool.false_eq_true, iv] at hS
        have e : aCells ⟨op, d, a, b, imm⟩ o pc off = [cR 5 r pc off, cB 10 pc off] := by simp [aCells, c1, hf, b1, hs]
        rw [e]
        simp only [go_sem, seval, eq_self, reduceCtorEq, cE4_at, spRight_mv, spRight_fn, spForm_mv, spForm_fn, spOn_mv, spSide_mv, spOnA_mv, spSent_mv, spMIns_mv, spMReg_mv, spMBare_mv, spMRegs_mv, mIns_0, mIns_1, mIns_2, mReg_0, mReg_1, mBare_0, mBare_1, mBare_2, mRegs_0, mRegs_1, mRegs_2, c1, hf, hOD, hOB, hSd, hEA, hS, ht, hlen, List.length_map, nest, ownV, c1, hf, b1, hs]
        repeat' ((first | (refine AG_of ?_ ?_ <;> intro h) | (refine AB_of ?_ ?_ <;> intro h) | (refine A_draw_of [] [] (by kernel_rfl) ?_ <;> have h := mark)) <;> simp only [go_sem, seval, eq_self, reduceCtorEq, cE4_at, spRight_mv, spRight_fn, spForm_mv, spForm_fn, spOn_mv, spSide_mv, spOnA_mv, spSent_mv, spMIns_mv, spMReg_mv, spMBare_mv, spMRegs_mv, mIns_0, mIns_1, mIns_2, mReg_0, mReg_1, mBare_0, mBare_1, mBare_2, mRegs_0, mRegs_1, mRegs_2, c1, hf, hOD, hOB, hSd, hEA, hS, ht, hlen, List.length_map, nest, ownV, c1, hf, b1, hs, h])
        all_goals (first | refine fin_ret ?_ | refine fin_normal ?_)
        all_goals simp only [resOf, Tryz.results49, Tryz.ntmps49, go_sem, seval, eq_self, reduceCtorEq, nest, ownC, cI, cR, cB, insZ, Cell.v]
      | [r, r'], _, hS, hs =>
        simp only [List.map_cons, List.map_nil, ownOr, List.isEmpty_nil, List.isEmpty_cons, if_true, if_false, Bool.false_eq_true, iv] at hS
        have e : aCells ⟨op, d, a, b, imm⟩ o pc off = [cR 5 r pc off, cR 5 r' pc off, cB 10 pc off] := by simp [aCells, c1, hf, b1, hs]
        rw [e]
        simp only [go_sem, seval, eq_self, reduceCtorEq, cE4_at, spRight_mv, spRight_fn, spForm_mv, spForm_fn, spOn_mv, spSide_mv, spOnA_mv, spSent_mv, spMIns_mv, spMReg_mv, spMBare_mv, spMRegs_mv, mIns_0, mIns_1, mIns_2, mReg_0, mReg_1, mBare_0, mBare_1, mBare_2, mRegs_0, mRegs_1, mRegs_2, c1, hf, hOD, hOB, hSd, hEA, hS, ht, hlen, List.length_map, nest, ownV, c1, hf, b1, hs]
        repeat' ((first | (refine AG_of ?_ ?_ <;> intro h) | (refine AB_of ?_ ?_ <;> intro h) | (refine A_draw_of [] [] (by kernel_rfl) ?_ <;> have h := mark)) <;> simp only [go_sem, seval, eq_self, reduceCtorEq, cE4_at, spRight_mv, spRight_fn, spForm_mv, spForm_fn, spOn_mv, spSide_mv, spOnA_mv, spSent_mv, spMIns_mv, spMReg_mv, spMBare_mv, spMRegs_mv, mIns_0, mIns_1, mIns_2, mReg_0, mReg_1, mBare_0, mBare_1, mBare_2, mRegs_0, mRegs_1, mRegs_2, c1, hf, hOD, hOB, hSd, hEA, hS, ht, hlen, List.length_map, nest, ownV, c1, hf, b1, hs, h])
        all_goals (first | refine fin_ret ?_ | refine fin_normal ?_)
        all_goals simp only [resOf, Tryz.results49, Tryz.ntmps49, go_sem, seval, eq_self, reduceCtorEq, nest, ownC, cI, cR, cB, insZ, Cell.v]
  ·
    have e : aCells ⟨op, d, a, b, imm⟩ o pc off = [cB 11 pc off] := by simp [aCells, c1, hf]
    rw [e]
    simp only [go_sem, seval, eq_self, reduceCtorEq, cE4_at, spRight_mv, spRight_fn, spForm_mv, spForm_fn, spOn_mv, spSide_mv, spOnA_mv, spSent_mv, spMIns_mv, spMReg_mv, spMBare_mv, spMRegs_mv, mIns_0, mIns_1, mIns_2, mReg_0, mReg_1, mBare_0, mBare_1, mBare_2, mRegs_0, mRegs_1, mRegs_2, c1, hf, hOD, hOB, hSd, hEA, hS, ht, hlen, List.length_map, nest, ownV, c1, hf]
    repeat' ((first | (refine AG_of ?_ ?_ <;> intro h) | (refine AB_of ?_ ?_ <;> intro h) | (refine A_draw_of [] [] (by kernel_rfl) ?_ <;> have h := mark)) <;> simp only [go_sem, seval, eq_self, reduceCtorEq, cE4_at, spRight_mv, spRight_fn, spForm_mv, spForm_fn, spOn_mv, spSide_mv, spOnA_mv, spSent_mv, spMIns_mv, spMReg_mv, spMBare_mv, spMRegs_mv, mIns_0, mIns_1, mIns_2, mReg_0, mReg_1, mBare_0, mBare_1, mBare_2, mRegs_0, mRegs_1, mRegs_2, c1, hf, hOD, hOB, hSd, hEA, hS, ht, hlen, List.length_map, nest, ownV, c1, hf, h])
    all_goals (first | refine fin_ret ?_ | refine fin_normal ?_)
    all_goals simp only [resOf, Tryz.results49, Tryz.ntmps49, go_sem, seval, eq_self, reduceCtorEq, nest, ownC, cI, cR, cB, insZ, Cell.v]
  ·
    have e : aCells ⟨op, d, a, b, imm⟩ o pc off = [cB 12 pc off] := by simp [aCells, c1, hf]
    rw [e]
    simp only [go_sem, seval, eq_self, reduceCtorEq, cE4_at, spRight_mv, spRight_fn, spForm_mv, spForm_fn, spOn_mv, spSide_mv, spOnA_mv, spSent_mv, spMIns_mv, spMReg_mv, spMBare_mv, spMRegs_mv, mIns_0, mIns_1, mIns_2, mReg_0, mReg_1, mBare_0, mBare_1, mBare_2, mRegs_0, mRegs_1, mRegs_2, c1, hf, hOD, hOB, hSd, hEA, hS, ht, hlen, List.length_map, nest, ownV, c1, hf]
    repeat' ((first | (refine AG_of ?_ ?_ <;> intro h) | (refine AB_of ?_ ?_ <;> intro h) | (refine A_draw_of [] [] (by kernel_rfl) ?_ <;> have h := mark)) <;> simp only [go_sem, seval, eq_self, reduceCtorEq, cE4_at, spRight_mv, spRight_fn, spForm_mv, spForm_fn, spOn_mv, spSide_mv, spOnA_mv, spSent_mv, spMIns_mv, spMReg_mv, spMBare_mv, spMRegs_mv, mIns_0, mIns_1, mIns_2, mReg_0, mReg_1, mBare_0, mBare_1, mBare_2, mRegs_0, mRegs_1, mRegs_2, c1, hf, hOD, hOB, hSd, hEA, hS, ht, hlen, List.length_map, nest, ownV, c1, hf, h])
    all_goals (first | refine fin_ret ?_ | refine fin_normal ?_)
    all_goals simp only [resOf, Tryz.results49, Tryz.ntmps49, go_sem, seval, eq_self, reduceCtorEq, nest, ownC, cI, cR, cB, insZ, Cell.v]


end Go.Proofs.YtkfmecmmbnehjaaGreat
