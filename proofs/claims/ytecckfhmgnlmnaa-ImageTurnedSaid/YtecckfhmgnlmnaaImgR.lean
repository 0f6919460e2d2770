/-
The reference's ImageBytes by the plain reckoning. No condition.
-/
import Derived.Test.YtecckfhmgnlmnaaImgQ
namespace Go.Proofs.Ytecckfhmgnlmnaa
set_option linter.unusedSimpArgs false

def cImg10 : Orc := upd (upd (upd cImg9 14 (some spRightP)) 21 (some spRPut)) 18 (some spBytes)
theorem cImg10_ok : ∀ g sp, cImg10 g = some sp → Impl Try.prog g sp := orc_upd (orc_upd (orc_upd cImg9_ok rrightp_impl) rput_impl) bytes_impl
theorem cImg10_at : cImg10 14 = some spRightP ∧ cImg10 21 = some spRPut ∧ cImg10 37 = some spEncode := ⟨rfl, rfl, rfl⟩
theorem spRPut_mv : spRPut.mv = [true] := rfl
theorem spRPut_fn (l : List Int) (w : Int) (h : 0 ≤ w) (hl : l.length ≤ 1000000000) : spRPut.fn [.own 1 5 (l.map u8v), .s (.int .u32 w)] = some (.own 1 5 ((l ++ putB w).map u8v)) := by
  simp [spRPut, h, hl]

def rbytesI (p : Prg) (s : S) : Prop :=
  s.env 1 = .ptr 1 1 0 ∧ s.st 1 = ⟨1, .box [.lst false 5 (p.code.map Ins.v), .s (.int .i64 p.size), .lst false 1 (p.data.map u8v)]⟩ ∧
  ∃ k b v : Nat, s.env 4 = .s (.int .i64 k) ∧ k ≤ p.code.length ∧ s.env 3 = .sw b v (16 + 4 * k) ∧ s.st b = ⟨v, .row 1 5 ((hB3 p ++ codeB (p.code.take k)).map u8v)⟩ ∧ (b = 24 ∨ b = 43)

set_option maxHeartbeats 4000000 in
theorem rbytes_impl : Impl Try.prog 19 spBytes := by
  refine impl_walk2 mixed cImg10_ok eqT_ok Try.func19 rfl Try.ntmps19 (by kernel_rfl) ?_
  intro xs r h
  unfold spBytes at h
  simp only at h
  (try split at h) <;> try (cases (show none = some r from h); done)
  rename_i x
  obtain ⟨p, hp, h3⟩ := Option.bind_eq_some_iff.1 h
  clear h
  cases h3
  refine ⟨_, prg_args hp _, by simp, ?_⟩
  have hr := spRightP_v p
  by_cases H : rightP p = true
  case neg =>
    have H2 : rightP p = false := by simpa using H
    rw [if_neg H]
    simp only [go_sem, Nat.reduceEqDiff, Nat.reduceLT, Nat.reduceLeDiff, Nat.reduceAdd, Nat.reduceSub, Nat.reduceMul, Nat.reduceBEq, ↓reduceIte, reduceCtorEq, Int.reduceLT, Int.reduceToNat, UInt8.reduceToNat, Int.reduceLE, Int.reduceBEq, Int.reduceBNe, Int.reduceAdd, Int.reduceSub, Int.reduceMul, Int.reduceNeg, Prg.v, hr, H2, cImg10_at, spRightP_mv]
    repeat' (first | (refine AG_of ?_ ?_ <;> intro h <;> simp only [go_sem, Nat.reduceEqDiff, Nat.reduceLT, Nat.reduceLeDiff, Nat.reduceAdd, Nat.reduceSub, Nat.reduceMul, Nat.reduceBEq, ↓reduceIte, reduceCtorEq, Int.reduceLT, Int.reduceToNat, UInt8.reduceToNat, Int.reduceLE, Int.reduceBEq, Int.reduceBNe, Int.reduceAdd, Int.reduceSub, Int.reduceMul, Int.reduceNeg, Prg.v, hr, H2, cImg10_at, spRightP_mv, h]) | (refine AB_of ?_ ?_ <;> intro h <;> simp only [go_sem, Nat.reduceEqDiff, Nat.reduceLT, Nat.reduceLeDiff, Nat.reduceAdd, Nat.reduceSub, Nat.reduceMul, Nat.reduceBEq, ↓reduceIte, reduceCtorEq, Int.reduceLT, Int.reduceToNat, UInt8.reduceToNat, Int.reduceLE, Int.reduceBEq, Int.reduceBNe, Int.reduceAdd, Int.reduceSub, Int.reduceMul, Int.reduceNeg, Prg.v, hr, H2, cImg10_at, spRightP_mv, h]) | (refine A_draw_of [] [] (by kernel_rfl) ?_ <;> simp only [go_sem, Nat.reduceEqDiff, Nat.reduceLT, Nat.reduceLeDiff, Nat.reduceAdd, Nat.reduceSub, Nat.reduceMul, Nat.reduceBEq, ↓reduceIte, reduceCtorEq, Int.reduceLT, Int.reduceToNat, UInt8.reduceToNat, Int.reduceLE, Int.reduceBEq, Int.reduceBNe, Int.reduceAdd, Int.reduceSub, Int.reduceMul, Int.reduceNeg, Prg.v, hr, H2, cImg10_at, spRightP_mv]))
    all_goals (first | refine fin_ret ?_ | refine fin_normal ?_)
    all_goals simp only [resOf, Try.results19, Try.ntmps19, go_sem, Nat.reduceEqDiff, Nat.reduceLT, Nat.reduceLeDiff, Nat.reduceAdd, Nat.reduceSub, Nat.reduceMul, Nat.reduceBEq, ↓reduceIte, reduceCtorEq, Int.reduceLT, Int.reduceToNat, UInt8.reduceToNat, Int.reduceLE, Int.reduceBEq, Int.reduceBNe, Int.reduceAdd, Int.reduceSub, Int.reduceMul, Int.reduceNeg]
  have H' := H
  simp only [rightP, headB, Bool.and_eq_true, decide_eq_true_eq] at H'
  obtain ⟨⟨⟨⟨⟨⟨q1, q2⟩, q3⟩, q4⟩, q5⟩, hall⟩, _⟩ := H'
  rw [if_pos H]
  have o1 : IntKind.u32.wrap p.code.length = p.code.length := w_u32 (by omega) (by omega)
  have o2 : IntKind.u32.wrap p.size = p.size := w_u32 (by omega) (by omega)
  have o3 : IntKind.u32.wrap p.data.length = p.data.length := w_u32 (by omega) (by omega)
  have P1 : spRPut.fn [.own 1 5 [.s (.int .u8 83), .s (.int .u8 82), .s (.int .u8 73), .s (.int .u8 1)], .s (.int .u32 p.code.length)] = some (.own 1 5 ((hB1 p).map u8v)) := spRPut_fn [83, 82, 73, 1] _ (by omega) (by simp)
  have P2 : spRPut.fn [.own 1 5 ((hB1 p).map u8v), .s (.int .u32 p.size)] = some (.own 1 5 ((hB2 p).map u8v)) := spRPut_fn _ _ (by omega) (by simp [hB1, putB_len])
  have P3 : spRPut.fn [.own 1 5 ((hB2 p).map u8v), .s (.int .u32 p.data.length)] = some (.own 1 5 ((hB3 p).map u8v)) := spRPut_fn _ _ (by omega) (by simp [hB1, hB2, putB_len])
  have l3 : (hB3 p).length = 16 := by simp [hB1, hB2, hB3, putB_len]
  have sc1 := scal_u8 (hB1 p)
  have sc2 := scal_u8 (hB2 p)
  simp only [go_sem, Nat.reduceEqDiff, Nat.reduceLT, Nat.reduceLeDiff, Nat.reduceAdd, Nat.reduceSub, Nat.reduceMul, Nat.reduceBEq, ↓reduceIte, reduceCtorEq, Int.reduceLT, Int.reduceToNat, UInt8.reduceToNat, Int.reduceLE, Int.reduceBEq, Int.reduceBNe, Int.reduceAdd, Int.reduceSub, Int.reduceMul, Int.reduceNeg, Prg.v, List.length_map, hr, H, cImg10_at, spRightP_mv]
  repeat' (first | (refine AG_of ?_ ?_ <;> intro h <;> simp only [go_sem, Nat.reduceEqDiff, Nat.reduceLT, Nat.reduceLeDiff, Nat.reduceAdd, Nat.reduceSub, Nat.reduceMul, Nat.reduceBEq, ↓reduceIte, reduceCtorEq, Int.reduceLT, Int.reduceToNat, UInt8.reduceToNat, Int.reduceLE, Int.reduceBEq, Int.reduceBNe, Int.reduceAdd, Int.reduceSub, Int.reduceMul, Int.reduceNeg, Prg.v, List.length_map, hr, H, cImg10_at, spRightP_mv, h]) | (refine AB_of ?_ ?_ <;> intro h <;> simp only [go_sem, Nat.reduceEqDiff, Nat.reduceLT, Nat.reduceLeDiff, Nat.reduceAdd, Nat.reduceSub, Nat.reduceMul, Nat.reduceBEq, ↓reduceIte, reduceCtorEq, Int.reduceLT, Int.reduceToNat, UInt8.reduceToNat, Int.reduceLE, Int.reduceBEq, Int.reduceBNe, Int.reduceAdd, Int.reduceSub, Int.reduceMul, Int.reduceNeg, Prg.v, List.length_map, hr, H, cImg10_at, spRightP_mv, h]))
  refine A_draw_of [10, 15, 19, 24] [10, 15, 19, 24] (by kernel_rfl) ?_
  simp only [go_sem, Nat.reduceEqDiff, Nat.reduceLT, Nat.reduceLeDiff, Nat.reduceAdd, Nat.reduceSub, Nat.reduceMul, Nat.reduceBEq, ↓reduceIte, reduceCtorEq, Int.reduceLT, Int.reduceToNat, UInt8.reduceToNat, Int.reduceLE, Int.reduceBEq, Int.reduceBNe, Int.reduceAdd, Int.reduceSub, Int.reduceMul, Int.reduceNeg, Prg.v, List.length_map, cImg10_at, spRPut_mv, P1, P2, P3, o1, o2, o3, sc1, sc2]
  repeat' (first | (refine AG_of ?_ ?_ <;> intro h <;> simp only [go_sem, Nat.reduceEqDiff, Nat.reduceLT, Nat.reduceLeDiff, Nat.reduceAdd, Nat.reduceSub, Nat.reduceMul, Nat.reduceBEq, ↓reduceIte, reduceCtorEq, Int.reduceLT, Int.reduceToNat, UInt8.reduceToNat, Int.reduceLE, Int.reduceBEq, Int.reduceBNe, Int.reduceAdd, Int.reduceSub, Int.reduceMul, Int.reduceNeg, Prg.v, List.length_map, cImg10_at, spRPut_mv, P1, P2, P3, o1, o2, o3, sc1, sc2, h]) | (refine AB_of ?_ ?_ <;> intro h <;> simp only [go_sem, Nat.reduceEqDiff, Nat.reduceLT, Nat.reduceLeDiff, Nat.reduceAdd, Nat.reduceSub, Nat.reduceMul, Nat.reduceBEq, ↓reduceIte, reduceCtorEq, Int.reduceLT, Int.reduceToNat, UInt8.reduceToNat, Int.reduceLE, Int.reduceBEq, Int.reduceBNe, Int.reduceAdd, Int.reduceSub, Int.reduceMul, Int.reduceNeg, Prg.v, List.length_map, cImg10_at, spRPut_mv, P1, P2, P3, o1, o2, o3, sc1, sc2, h]) | (refine A_draw_of [] [] (by kernel_rfl) ?_ <;> simp only [go_sem, Nat.reduceEqDiff, Nat.reduceLT, Nat.reduceLeDiff, Nat.reduceAdd, Nat.reduceSub, Nat.reduceMul, Nat.reduceBEq, ↓reduceIte, reduceCtorEq, Int.reduceLT, Int.reduceToNat, UInt8.reduceToNat, Int.reduceLE, Int.reduceBEq, Int.reduceBNe, Int.reduceAdd, Int.reduceSub, Int.reduceMul, Int.reduceNeg, Prg.v, List.length_map, cImg10_at, spRPut_mv, P1, P2, P3, o1, o2, o3, sc1, sc2]))
  have r3 : ((hB3 p).map u8v).length = 16 := by simp [l3]
  refine A_loop (rbytesI p) (fun s => p.code.length - (numOf (s.env 4)).toNat) ?_ ?_
  · refine ⟨by simp [upd], by simp [upd, init], 0, 24, 1, by simp [upd], by omega, by simp [upd, init, l3], by simp [upd, init, codeB], .inl rfl⟩
  intro s hs
  obtain ⟨e1, t1, k, b, v, e4, hk, e3, tb, hb⟩ := hs
  rcases Nat.lt_or_ge k p.code.length with hlt | hge
  · obtain ⟨i, q⟩ : ∃ i, p.code[k]? = some i := ⟨p.code[k], List.getElem?_eq_getElem hlt⟩
    have hi : rightB i = true := List.all_eq_true.1 hall i (List.mem_of_getElem? q)
    have g0 : decide ((k : Int) < p.code.length) = true := by simp; omega
    have z0 := Int.natCast_nonneg k
    have n2 : IntKind.i64.wrap ((k : Int) + 1) = (k + 1 : Nat) := by rw [w_i64 (by omega) (by omega)]; omega
    have w0 : 0 ≤ (encT i).1 := by
      rw [encT_right hi]
      obtain ⟨o0, o1, d0, d1, a0, a1, b0, b1, m0, m1⟩ := right_fit hi
      simp only [encW]
      omega
    obtain ⟨op, d, a, b', imm⟩ := i
    have he : spEncode.fn [.agg [.s (.int .i64 op), .s (.int .i64 d), .s (.int .i64 a), .s (.int .i64 b'), .s (.int .i64 imm)]] = some (.tup [.s (.int .u32 (encT ⟨op, d, a, b', imm⟩).1), .s (.bool (encT ⟨op, d, a, b', imm⟩).2)]) := rfl
    have sc := scal_u8 (hB3 p ++ codeB (p.code.take k))
    have hput := spRPut_fn (hB3 p ++ codeB (p.code.take k)) _ w0 (by rw [List.length_append, l3, codeB_len]; simp; omega)
    rcases hb with rfl | rfl
    all_goals
    simp only [go_sem, Nat.reduceEqDiff, Nat.reduceLT, Nat.reduceLeDiff, Nat.reduceAdd, Nat.reduceSub, Nat.reduceMul, Nat.reduceBEq, ↓reduceIte, reduceCtorEq, Int.reduceLT, Int.reduceToNat, UInt8.reduceToNat, Int.reduceLE, Int.reduceBEq, Int.reduceBNe, Int.reduceAdd, Int.reduceSub, Int.reduceMul, Int.reduceNeg, e1, t1, e4, e3, tb, q, g0, z0, n2, he, hput, sc, cImg10_at, spRPut_mv, spEncode_mv, Int.toNat_natCast, List.getElem?_map, List.length_map, Ins.v]
    repeat' (first | (refine AG_of ?_ ?_ <;> intro h <;> simp only [go_sem, Nat.reduceEqDiff, Nat.reduceLT, Nat.reduceLeDiff, Nat.reduceAdd, Nat.reduceSub, Nat.reduceMul, Nat.reduceBEq, ↓reduceIte, reduceCtorEq, Int.reduceLT, Int.reduceToNat, UInt8.reduceToNat, Int.reduceLE, Int.reduceBEq, Int.reduceBNe, Int.reduceAdd, Int.reduceSub, Int.reduceMul, Int.reduceNeg, e1, t1, e4, e3, tb, q, g0, z0, n2, he, hput, sc, cImg10_at, spRPut_mv, spEncode_mv, Int.toNat_natCast, List.getElem?_map, List.length_map, Ins.v, h]) | (refine AB_of ?_ ?_ <;> intro h <;> simp only [go_sem, Nat.reduceEqDiff, Nat.reduceLT, Nat.reduceLeDiff, Nat.reduceAdd, Nat.reduceSub, Nat.reduceMul, Nat.reduceBEq, ↓reduceIte, reduceCtorEq, Int.reduceLT, Int.reduceToNat, UInt8.reduceToNat, Int.reduceLE, Int.reduceBEq, Int.reduceBNe, Int.reduceAdd, Int.reduceSub, Int.reduceMul, Int.reduceNeg, e1, t1, e4, e3, tb, q, g0, z0, n2, he, hput, sc, cImg10_at, spRPut_mv, spEncode_mv, Int.toNat_natCast, List.getElem?_map, List.length_map, Ins.v, h]) | (refine A_draw_of [] [] (by kernel_rfl) ?_ <;> simp only [go_sem, Nat.reduceEqDiff, Nat.reduceLT, Nat.reduceLeDiff, Nat.reduceAdd, Nat.reduceSub, Nat.reduceMul, Nat.reduceBEq, ↓reduceIte, reduceCtorEq, Int.reduceLT, Int.reduceToNat, UInt8.reduceToNat, Int.reduceLE, Int.reduceBEq, Int.reduceBNe, Int.reduceAdd, Int.reduceSub, Int.reduceMul, Int.reduceNeg, e1, t1, e4, e3, tb, q, g0, z0, n2, he, hput, sc, cImg10_at, spRPut_mv, spEncode_mv, Int.toNat_natCast, List.getElem?_map, List.length_map, Ins.v]))
    all_goals
      refine ⟨⟨by simp [upd, e1], by simp [upd, t1], k + 1, 43, (s.st 43).ver + 1, by simp [upd], by omega, ?_, ?_, .inr rfl⟩, by simp [upd, numOf, e4]; omega⟩
    all_goals first
      | (simp [upd, l3, codeB_len, putB_len, tb]; omega)
      | (simp [upd, codeB_succ q, tb]; done)
  · have hkl : k = p.code.length := by omega
    subst hkl
    have g0 : decide ((p.code.length : Int) < p.code.length) = false := by simp
    have sc := scal_u8 p.data
    have f1 : ((hB3 p).length + (codeB p.code).length + p.data.length) * 1 ≤ 140737488355328 := by rw [l3, codeB_len]; omega
    rw [List.take_length] at tb
    rcases hb with rfl | rfl
    all_goals
    simp only [go_sem, Nat.reduceEqDiff, Nat.reduceLT, Nat.reduceLeDiff, Nat.reduceAdd, Nat.reduceSub, Nat.reduceMul, Nat.reduceBEq, ↓reduceIte, reduceCtorEq, Int.reduceLT, Int.reduceToNat, UInt8.reduceToNat, Int.reduceLE, Int.reduceBEq, Int.reduceBNe, Int.reduceAdd, Int.reduceSub, Int.reduceMul, Int.reduceNeg, e1, t1, e4, e3, tb, g0, sc, f1, List.length_map, List.length_append]
    repeat' (first | (refine AG_of ?_ ?_ <;> intro h <;> simp only [go_sem, Nat.reduceEqDiff, Nat.reduceLT, Nat.reduceLeDiff, Nat.reduceAdd, Nat.reduceSub, Nat.reduceMul, Nat.reduceBEq, ↓reduceIte, reduceCtorEq, Int.reduceLT, Int.reduceToNat, UInt8.reduceToNat, Int.reduceLE, Int.reduceBEq, Int.reduceBNe, Int.reduceAdd, Int.reduceSub, Int.reduceMul, Int.reduceNeg, e1, t1, e4, e3, tb, g0, sc, f1, List.length_map, List.length_append, h]) | (refine AB_of ?_ ?_ <;> intro h <;> simp only [go_sem, Nat.reduceEqDiff, Nat.reduceLT, Nat.reduceLeDiff, Nat.reduceAdd, Nat.reduceSub, Nat.reduceMul, Nat.reduceBEq, ↓reduceIte, reduceCtorEq, Int.reduceLT, Int.reduceToNat, UInt8.reduceToNat, Int.reduceLE, Int.reduceBEq, Int.reduceBNe, Int.reduceAdd, Int.reduceSub, Int.reduceMul, Int.reduceNeg, e1, t1, e4, e3, tb, g0, sc, f1, List.length_map, List.length_append, h]) | (refine A_draw_of [] [] (by kernel_rfl) ?_ <;> simp only [go_sem, Nat.reduceEqDiff, Nat.reduceLT, Nat.reduceLeDiff, Nat.reduceAdd, Nat.reduceSub, Nat.reduceMul, Nat.reduceBEq, ↓reduceIte, reduceCtorEq, Int.reduceLT, Int.reduceToNat, UInt8.reduceToNat, Int.reduceLE, Int.reduceBEq, Int.reduceBNe, Int.reduceAdd, Int.reduceSub, Int.reduceMul, Int.reduceNeg, e1, t1, e4, e3, tb, g0, sc, f1, List.length_map, List.length_append]))
    all_goals (first | refine fin_ret ?_ | refine fin_normal ?_)
    all_goals simp only [resOf, Try.results19, Try.ntmps19, go_sem, Nat.reduceEqDiff, Nat.reduceLT, Nat.reduceLeDiff, Nat.reduceAdd, Nat.reduceSub, Nat.reduceMul, Nat.reduceBEq, ↓reduceIte, reduceCtorEq, Int.reduceLT, Int.reduceToNat, UInt8.reduceToNat, Int.reduceLE, Int.reduceBEq, Int.reduceBNe, Int.reduceAdd, Int.reduceSub, Int.reduceMul, Int.reduceNeg]
    all_goals simp [imgB, headBytes, hB1, hB2, hB3]
end Go.Proofs.Ytecckfhmgnlmnaa
