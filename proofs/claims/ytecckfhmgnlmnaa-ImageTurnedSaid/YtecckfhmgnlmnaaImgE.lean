/-
The reference's instructions by the plain reckoning: right ones, words. No condition.
-/
import Derived.Test.YtecckfhmgnlmnaaImgD
namespace Go.Proofs.Ytecckfhmgnlmnaa
set_option linter.unusedSimpArgs false

def cImg1 : Orc := upd (upd (upd cImg0 32 (some spForm)) 45 (some spHas)) 46 (some spReg)
theorem cImg1_ok : ∀ g sp, cImg1 g = some sp → Impl Try.prog g sp := orc_upd (orc_upd (orc_upd cImg0_ok rform_impl) rhas_impl) rreg_impl
theorem cImg1_at : cImg1 32 = some spForm ∧ cImg1 45 = some spHas ∧ cImg1 46 = some spReg := ⟨rfl, rfl, rfl⟩
theorem spHas_mv : spHas.mv = [] := rfl
theorem spHas_fn (f : Int) : spHas.fn [.s (.int .i64 f)] = some (.tup [.s (.bool (hasDB f)), .s (.bool (hasAB f)), .s (.bool (hasBB f)), .s (.bool (hasImmB f))]) := rfl
theorem spReg_mv : spReg.mv = [] := rfl
theorem spReg_fn (n : Int) (b : Bool) : spReg.fn [.s (.int .i64 n), .s (.bool b)] = some (.s (.bool (regB n b))) := rfl

set_option maxHeartbeats 4000000 in
set_option maxRecDepth 20000 in
theorem rright_impl : Impl Try.prog 30 spRight := by
  refine impl_walk mixed cImg1_ok eqT_ok Try.func30 rfl Try.ntmps30 (by kernel_rfl) ?_
  intro xs r h
  unfold spRight at h
  simp only at h
  (try split at h) <;> try (cases (show none = some r from h); done)
  rename_i op d a b imm
  cases h
  refine ⟨by simp, ?_⟩
  simp only [go_sem, Nat.reduceEqDiff, Nat.reduceLT, Nat.reduceLeDiff, Nat.reduceAdd, Nat.reduceSub, Nat.reduceMul, Nat.reduceBEq, ↓reduceIte, reduceCtorEq, Int.reduceLT, Int.reduceToNat, UInt8.reduceToNat, Int.reduceLE, Int.reduceBEq, Int.reduceBNe, Int.reduceAdd, Int.reduceSub, Int.reduceMul, Int.reduceNeg, cImg1_at, spForm_mv, spForm_fn, spHas_mv, spHas_fn, spReg_mv, spReg_fn]
  repeat' (first | (refine AG_of ?_ ?_ <;> intro h <;> simp only [go_sem, Nat.reduceEqDiff, Nat.reduceLT, Nat.reduceLeDiff, Nat.reduceAdd, Nat.reduceSub, Nat.reduceMul, Nat.reduceBEq, ↓reduceIte, reduceCtorEq, Int.reduceLT, Int.reduceToNat, UInt8.reduceToNat, Int.reduceLE, Int.reduceBEq, Int.reduceBNe, Int.reduceAdd, Int.reduceSub, Int.reduceMul, Int.reduceNeg, cImg1_at, spForm_mv, spForm_fn, spHas_mv, spHas_fn, spReg_mv, spReg_fn, h]) | (refine AB_of ?_ ?_ <;> intro h <;> simp only [go_sem, Nat.reduceEqDiff, Nat.reduceLT, Nat.reduceLeDiff, Nat.reduceAdd, Nat.reduceSub, Nat.reduceMul, Nat.reduceBEq, ↓reduceIte, reduceCtorEq, Int.reduceLT, Int.reduceToNat, UInt8.reduceToNat, Int.reduceLE, Int.reduceBEq, Int.reduceBNe, Int.reduceAdd, Int.reduceSub, Int.reduceMul, Int.reduceNeg, cImg1_at, spForm_mv, spForm_fn, spHas_mv, spHas_fn, spReg_mv, spReg_fn, h]) | (refine A_draw_of [] [] (by kernel_rfl) ?_ <;> simp only [go_sem, Nat.reduceEqDiff, Nat.reduceLT, Nat.reduceLeDiff, Nat.reduceAdd, Nat.reduceSub, Nat.reduceMul, Nat.reduceBEq, ↓reduceIte, reduceCtorEq, Int.reduceLT, Int.reduceToNat, UInt8.reduceToNat, Int.reduceLE, Int.reduceBEq, Int.reduceBNe, Int.reduceAdd, Int.reduceSub, Int.reduceMul, Int.reduceNeg, cImg1_at, spForm_mv, spForm_fn, spHas_mv, spHas_fn, spReg_mv, spReg_fn]))
  all_goals (first | refine fin_ret ?_ | refine fin_normal ?_)
  all_goals simp only [resOf, Try.results30, Try.ntmps30, go_sem, Nat.reduceEqDiff, Nat.reduceLT, Nat.reduceLeDiff, Nat.reduceAdd, Nat.reduceSub, Nat.reduceMul, Nat.reduceBEq, ↓reduceIte, reduceCtorEq, Int.reduceLT, Int.reduceToNat, UInt8.reduceToNat, Int.reduceLE, Int.reduceBEq, Int.reduceBNe, Int.reduceAdd, Int.reduceSub, Int.reduceMul, Int.reduceNeg]
  all_goals
    rw [← refRight_eq]
    simp_all [refRightB, shiftB, loB, hiB] <;> omega

theorem rget_impl : Impl Try.prog 25 spGet := by
  refine impl_walk2 mixed cImg0_ok eqT_ok Try.func25 rfl Try.ntmps25 (by kernel_rfl) ?_
  intro xs r h
  unfold spGet at h
  simp only at h
  (try split at h) <;> try (cases (show none = some r from h); done)
  rename_i x n
  obtain ⟨l, hl, h3⟩ := Option.bind_eq_some_iff.1 h
  obtain ⟨l2, h2, h4⟩ := Option.bind_eq_some_iff.1 h3
  have e := mapM_eq (fun _ _ => u8Of_eq) h2
  clear h h3
  subst e
  split at h4
  case isFalse => cases h4
  rename_i hc
  cases h4
  obtain ⟨hb, hlen, hn0, hn1⟩ := hc
  refine ⟨_, lst_args hl _, by simp, ?_⟩
  have w0 : IntKind.i64.wrap ((l2.length : Int) - 4) = l2.length - 4 := w_i64 (by omega) (by omega)
  by_cases hA : n < 0 ∨ n > (l2.length : Int) - 4
  · have hA2 : getT l2 n = .tup [.s (.int .u32 0), .s (.bool false)] := by unfold getT; rw [if_pos hA]
    rw [hA2]
    simp only [go_sem, Nat.reduceEqDiff, Nat.reduceLT, Nat.reduceLeDiff, Nat.reduceAdd, Nat.reduceSub, Nat.reduceMul, Nat.reduceBEq, ↓reduceIte, reduceCtorEq, Int.reduceLT, Int.reduceToNat, UInt8.reduceToNat, Int.reduceLE, Int.reduceBEq, Int.reduceBNe, Int.reduceAdd, Int.reduceSub, Int.reduceMul, Int.reduceNeg, w0, List.length_map]
    repeat' (first | (refine AG_of ?_ ?_ <;> intro h <;> simp only [go_sem, Nat.reduceEqDiff, Nat.reduceLT, Nat.reduceLeDiff, Nat.reduceAdd, Nat.reduceSub, Nat.reduceMul, Nat.reduceBEq, ↓reduceIte, reduceCtorEq, Int.reduceLT, Int.reduceToNat, UInt8.reduceToNat, Int.reduceLE, Int.reduceBEq, Int.reduceBNe, Int.reduceAdd, Int.reduceSub, Int.reduceMul, Int.reduceNeg, w0, List.length_map, h]) | (refine AB_of ?_ ?_ <;> intro h <;> simp only [go_sem, Nat.reduceEqDiff, Nat.reduceLT, Nat.reduceLeDiff, Nat.reduceAdd, Nat.reduceSub, Nat.reduceMul, Nat.reduceBEq, ↓reduceIte, reduceCtorEq, Int.reduceLT, Int.reduceToNat, UInt8.reduceToNat, Int.reduceLE, Int.reduceBEq, Int.reduceBNe, Int.reduceAdd, Int.reduceSub, Int.reduceMul, Int.reduceNeg, w0, List.length_map, h]) | (refine A_draw_of [] [] (by kernel_rfl) ?_ <;> simp only [go_sem, Nat.reduceEqDiff, Nat.reduceLT, Nat.reduceLeDiff, Nat.reduceAdd, Nat.reduceSub, Nat.reduceMul, Nat.reduceBEq, ↓reduceIte, reduceCtorEq, Int.reduceLT, Int.reduceToNat, UInt8.reduceToNat, Int.reduceLE, Int.reduceBEq, Int.reduceBNe, Int.reduceAdd, Int.reduceSub, Int.reduceMul, Int.reduceNeg, w0, List.length_map]))
    all_goals try (refine fin_ret ?_; simp only [resOf, Try.results25, Try.ntmps25, go_sem, Nat.reduceEqDiff, Nat.reduceLT, Nat.reduceLeDiff, Nat.reduceAdd, Nat.reduceSub, Nat.reduceMul, Nat.reduceBEq, ↓reduceIte, reduceCtorEq, Int.reduceLT, Int.reduceToNat, UInt8.reduceToNat, Int.reduceLE, Int.reduceBEq, Int.reduceBNe, Int.reduceAdd, Int.reduceSub, Int.reduceMul, Int.reduceNeg]; done)
    all_goals (exfalso; simp_all <;> omega)
  · obtain ⟨k, rfl⟩ := Int.eq_ofNat_of_zero_le (show 0 ≤ n by omega)
    have hk : k + 4 ≤ l2.length := by omega
    have hby : ∀ i, i < l2.length → ∃ b, l2[i]? = some b ∧ l2.getD i 0 = b ∧ 0 ≤ b ∧ b ≤ 255 := fun i hi => by
      have := List.all_eq_true.1 hb l2[i] (List.getElem_mem hi)
      simp only [byte, Bool.and_eq_true, decide_eq_true_eq] at this
      exact ⟨l2[i], List.getElem?_eq_getElem hi, by simp [List.getD_eq_getElem?_getD, List.getElem?_eq_getElem hi], this⟩
    obtain ⟨b0, q0, d0, b00, b01⟩ := hby k (by omega)
    obtain ⟨b1, q1, d1, b10, b11⟩ := hby (k + 1) (by omega)
    obtain ⟨b2, q2, d2, b20, b21⟩ := hby (k + 2) (by omega)
    obtain ⟨b3, q3, d3, b30, b31⟩ := hby (k + 3) (by omega)
    have n1 : IntKind.i64.wrap ((k : Int) + 1) = (k + 1 : Nat) := by rw [w_i64 (by omega) (by omega)]; omega
    have n2 : IntKind.i64.wrap ((k : Int) + 2) = (k + 2 : Nat) := by rw [w_i64 (by omega) (by omega)]; omega
    have n3 : IntKind.i64.wrap ((k : Int) + 3) = (k + 3 : Nat) := by rw [w_i64 (by omega) (by omega)]; omega
    have z0 := Int.natCast_nonneg k
    have z1 := Int.natCast_nonneg (k + 1)
    have z2 := Int.natCast_nonneg (k + 2)
    have z3 := Int.natCast_nonneg (k + 3)
    have c0 : IntKind.u32.wrap b0 = b0 := w_u32 b00 (by omega)
    have c1 : IntKind.u32.wrap b1 = b1 := w_u32 b10 (by omega)
    have c2 : IntKind.u32.wrap b2 = b2 := w_u32 b20 (by omega)
    have c3 : IntKind.u32.wrap b3 = b3 := w_u32 b30 (by omega)
    have s1 : IntKind.u32.wrap (b1 * 256) = b1 * 256 := w_u32 (by omega) (by omega)
    have s2 : IntKind.u32.wrap (b2 * 65536) = b2 * 65536 := w_u32 (by omega) (by omega)
    have s3 : IntKind.u32.wrap (b3 * 16777216) = b3 * 16777216 := w_u32 (by omega) (by omega)
    have g0 : decide ((k : Int) < 0) = false := by simp
    have g1 : decide ((l2.length : Int) < 4) = false := by simp; omega
    have g2 : decide ((l2.length : Int) - 4 < (k : Int)) = false := by simp; omega
    simp only [go_sem, Nat.reduceEqDiff, Nat.reduceLT, Nat.reduceLeDiff, Nat.reduceAdd, Nat.reduceSub, Nat.reduceMul, Nat.reduceBEq, ↓reduceIte, reduceCtorEq, Int.reduceLT, Int.reduceToNat, UInt8.reduceToNat, Int.reduceLE, Int.reduceBEq, Int.reduceBNe, Int.reduceAdd, Int.reduceSub, Int.reduceMul, Int.reduceNeg, w0, g0, g1, g2, n1, n2, n3, z0, z1, z2, z3, c0, c1, c2, c3, s1, s2, s3, q0, q1, q2, q3, Int.toNat_natCast, List.getElem?_map, u8v, List.length_map]
    repeat' (first | (refine AG_of ?_ ?_ <;> intro h <;> simp only [go_sem, Nat.reduceEqDiff, Nat.reduceLT, Nat.reduceLeDiff, Nat.reduceAdd, Nat.reduceSub, Nat.reduceMul, Nat.reduceBEq, ↓reduceIte, reduceCtorEq, Int.reduceLT, Int.reduceToNat, UInt8.reduceToNat, Int.reduceLE, Int.reduceBEq, Int.reduceBNe, Int.reduceAdd, Int.reduceSub, Int.reduceMul, Int.reduceNeg, w0, g0, g1, g2, n1, n2, n3, z0, z1, z2, z3, c0, c1, c2, c3, s1, s2, s3, q0, q1, q2, q3, Int.toNat_natCast, List.getElem?_map, u8v, List.length_map, h]) | (refine AB_of ?_ ?_ <;> intro h <;> simp only [go_sem, Nat.reduceEqDiff, Nat.reduceLT, Nat.reduceLeDiff, Nat.reduceAdd, Nat.reduceSub, Nat.reduceMul, Nat.reduceBEq, ↓reduceIte, reduceCtorEq, Int.reduceLT, Int.reduceToNat, UInt8.reduceToNat, Int.reduceLE, Int.reduceBEq, Int.reduceBNe, Int.reduceAdd, Int.reduceSub, Int.reduceMul, Int.reduceNeg, w0, g0, g1, g2, n1, n2, n3, z0, z1, z2, z3, c0, c1, c2, c3, s1, s2, s3, q0, q1, q2, q3, Int.toNat_natCast, List.getElem?_map, u8v, List.length_map, h]) | (refine A_draw_of [] [] (by kernel_rfl) ?_ <;> simp only [go_sem, Nat.reduceEqDiff, Nat.reduceLT, Nat.reduceLeDiff, Nat.reduceAdd, Nat.reduceSub, Nat.reduceMul, Nat.reduceBEq, ↓reduceIte, reduceCtorEq, Int.reduceLT, Int.reduceToNat, UInt8.reduceToNat, Int.reduceLE, Int.reduceBEq, Int.reduceBNe, Int.reduceAdd, Int.reduceSub, Int.reduceMul, Int.reduceNeg, w0, g0, g1, g2, n1, n2, n3, z0, z1, z2, z3, c0, c1, c2, c3, s1, s2, s3, q0, q1, q2, q3, Int.toNat_natCast, List.getElem?_map, u8v, List.length_map]))
    all_goals (first | refine fin_ret ?_ | refine fin_normal ?_)
    all_goals simp only [resOf, Try.results25, Try.ntmps25, go_sem, Nat.reduceEqDiff, Nat.reduceLT, Nat.reduceLeDiff, Nat.reduceAdd, Nat.reduceSub, Nat.reduceMul, Nat.reduceBEq, ↓reduceIte, reduceCtorEq, Int.reduceLT, Int.reduceToNat, UInt8.reduceToNat, Int.reduceLE, Int.reduceBEq, Int.reduceBNe, Int.reduceAdd, Int.reduceSub, Int.reduceMul, Int.reduceNeg]
    all_goals
      rw [get_bits ⟨b00, b01⟩ ⟨b10, b11⟩ ⟨b20, b21⟩ ⟨b30, b31⟩]
      unfold getT
      rw [if_neg (by omega)]
      simp only [Int.toNat_natCast, d0, d1, d2, d3]
end Go.Proofs.Ytecckfhmgnlmnaa
