/-
The reference's Encode and Decode by the plain reckoning. No condition.
-/
import Derived.Test.YtecckfhmgnlmnaaImgK
namespace Go.Proofs.Ytecckfhmgnlmnaa
set_option linter.unusedSimpArgs false

theorem cImg7_at2 : cImg7 30 = some spRight := rfl

set_option maxHeartbeats 1000000 in
theorem rencode_impl : Impl Try.prog 37 spEncode := by
  refine impl_walk mixed cImg7_ok eqT_ok Try.func37 rfl Try.ntmps37 (by kernel_rfl) ?_
  intro xs r h
  unfold spEncode at h
  simp only at h
  (try split at h) <;> try (cases (show none = some r from h); done)
  rename_i op d a b imm
  cases h
  refine ⟨by simp, ?_⟩
  simp only [go_sem, Nat.reduceEqDiff, Nat.reduceLT, Nat.reduceLeDiff, Nat.reduceAdd, Nat.reduceSub, Nat.reduceMul, Nat.reduceBEq, ↓reduceIte, reduceCtorEq, Int.reduceLT, Int.reduceToNat, UInt8.reduceToNat, Int.reduceLE, Int.reduceBEq, Int.reduceBNe, Int.reduceAdd, Int.reduceSub, Int.reduceMul, Int.reduceNeg, cImg7_at2, spRight_mv, spRight_fn]
  repeat' (first | (refine AG_of ?_ ?_ <;> intro h <;> simp only [go_sem, Nat.reduceEqDiff, Nat.reduceLT, Nat.reduceLeDiff, Nat.reduceAdd, Nat.reduceSub, Nat.reduceMul, Nat.reduceBEq, ↓reduceIte, reduceCtorEq, Int.reduceLT, Int.reduceToNat, UInt8.reduceToNat, Int.reduceLE, Int.reduceBEq, Int.reduceBNe, Int.reduceAdd, Int.reduceSub, Int.reduceMul, Int.reduceNeg, cImg7_at2, spRight_mv, spRight_fn, h]) | (refine AB_of ?_ ?_ <;> intro h <;> simp only [go_sem, Nat.reduceEqDiff, Nat.reduceLT, Nat.reduceLeDiff, Nat.reduceAdd, Nat.reduceSub, Nat.reduceMul, Nat.reduceBEq, ↓reduceIte, reduceCtorEq, Int.reduceLT, Int.reduceToNat, UInt8.reduceToNat, Int.reduceLE, Int.reduceBEq, Int.reduceBNe, Int.reduceAdd, Int.reduceSub, Int.reduceMul, Int.reduceNeg, cImg7_at2, spRight_mv, spRight_fn, h]) | (refine A_draw_of [] [] (by kernel_rfl) ?_ <;> simp only [go_sem, Nat.reduceEqDiff, Nat.reduceLT, Nat.reduceLeDiff, Nat.reduceAdd, Nat.reduceSub, Nat.reduceMul, Nat.reduceBEq, ↓reduceIte, reduceCtorEq, Int.reduceLT, Int.reduceToNat, UInt8.reduceToNat, Int.reduceLE, Int.reduceBEq, Int.reduceBNe, Int.reduceAdd, Int.reduceSub, Int.reduceMul, Int.reduceNeg, cImg7_at2, spRight_mv, spRight_fn]))
  all_goals (first | refine fin_ret ?_ | refine fin_normal ?_)
  all_goals simp only [resOf, Try.results37, Try.ntmps37, go_sem, Nat.reduceEqDiff, Nat.reduceLT, Nat.reduceLeDiff, Nat.reduceAdd, Nat.reduceSub, Nat.reduceMul, Nat.reduceBEq, ↓reduceIte, reduceCtorEq, Int.reduceLT, Int.reduceToNat, UInt8.reduceToNat, Int.reduceLE, Int.reduceBEq, Int.reduceBNe, Int.reduceAdd, Int.reduceSub, Int.reduceMul, Int.reduceNeg]
  · simp only [Bool.not_eq_true'] at h
    rw [encT_wrong h]
  · simp only [Bool.not_eq_false'] at h
    rw [encT_right h]
    obtain ⟨o0, o1, d0, d1, a0, a1, b0, b1, m0, m1⟩ := right_fit h
    simp only at o0 o1 d0 d1 a0 a1 b0 b1 m0 m1
    have := enc_bits (imm := imm) o0 o1 d0 d1 a0 a1 b0 b1
    simp only [IntKind.wrap_u32]
    rw [Int.emod_eq_of_lt (show (0 : Int) ≤ op by omega) (by omega), Int.emod_eq_of_lt (show (0 : Int) ≤ d by omega) (by omega), Int.emod_eq_of_lt (show (0 : Int) ≤ a by omega) (by omega), Int.emod_eq_of_lt (show (0 : Int) ≤ b by omega) (by omega),
      Int.emod_eq_of_lt (show (0 : Int) ≤ op * 67108864 by omega) (by omega), Int.emod_eq_of_lt (show (0 : Int) ≤ d * 4194304 by omega) (by omega), Int.emod_eq_of_lt (show (0 : Int) ≤ a * 262144 by omega) (by omega), Int.emod_eq_of_lt (show (0 : Int) ≤ b * 16384 by omega) (by omega), this]

def cImg8 : Orc := upd cImg7 37 (some spEncode)
theorem cImg8_ok : ∀ g sp, cImg8 g = some sp → Impl Try.prog g sp := orc_upd cImg7_ok rencode_impl
theorem cImg8_at : cImg8 37 = some spEncode := rfl
theorem spEncode_mv : spEncode.mv = [] := rfl

set_option maxHeartbeats 1000000 in
theorem rdecode_impl : Impl Try.prog 26 spDecode := by
  refine impl_walk mixed cImg8_ok eqT_ok Try.func26 rfl Try.ntmps26 (by kernel_rfl) ?_
  intro xs r h
  unfold spDecode at h
  simp only at h
  (try split at h) <;> try (cases (show none = some r from h); done)
  rename_i w
  split at h
  case isFalse => cases h
  rename_i hw
  obtain ⟨h0, h1⟩ := hw
  cases h
  refine ⟨by simp, ?_⟩
  have e1 : IntKind.i64.wrap (w.fdiv 67108864) = w / 67108864 := by
    rw [Int.fdiv_eq_ediv_of_nonneg _ (by decide), IntKind.wrap_i64]; omega
  have e2 : IntKind.i64.wrap (bits .and .u32 (w.fdiv 4194304) 15) = w / 4194304 % 16 := by
    rw [Int.fdiv_eq_ediv_of_nonneg _ (by decide), and_15 _ (by omega) (by omega), IntKind.wrap_i64]; omega
  have e3 : IntKind.i64.wrap (bits .and .u32 (w.fdiv 262144) 15) = w / 262144 % 16 := by
    rw [Int.fdiv_eq_ediv_of_nonneg _ (by decide), and_15 _ (by omega) (by omega), IntKind.wrap_i64]; omega
  have e4 : IntKind.i64.wrap (bits .and .u32 (w.fdiv 16384) 15) = w / 16384 % 16 := by
    rw [Int.fdiv_eq_ediv_of_nonneg _ (by decide), and_15 _ (by omega) (by omega), IntKind.wrap_i64]; omega
  have e5 : IntKind.i64.wrap (bits .and .u32 w 16383) = w % 16384 := by
    rw [and_low _ h0 h1, IntKind.wrap_i64]; omega
  have e6 : IntKind.i64.wrap (w % 16384 - 16384) = w % 16384 - 16384 := by
    rw [IntKind.wrap_i64]; omega
  have hmm : immOf w = if 8192 ≤ w % 16384 then w % 16384 - 16384 else w % 16384 := rfl
  have he0 : spEncode.fn [.agg [.s (.int .i64 (w / 67108864)), .s (.int .i64 (w / 4194304 % 16)), .s (.int .i64 (w / 262144 % 16)), .s (.int .i64 (w / 16384 % 16)), .s (.int .i64 (immOf w))]] = some (.tup [.s (.int .u32 (encT (decI w)).1), .s (.bool (encT (decI w)).2)]) := rfl
  have hv : (decI w).v = .agg [.s (.int .i64 (w / 67108864)), .s (.int .i64 (w / 4194304 % 16)), .s (.int .i64 (w / 262144 % 16)), .s (.int .i64 (w / 16384 % 16)), .s (.int .i64 (immOf w))] := rfl
  have hx : rightB (decI w) = true → encT (decI w) = (w, true) := fun hr => by rw [encT_right hr, enc_dec w h0 h1]
  have hy : rightB (decI w) = false → encT (decI w) = (0, false) := encT_wrong
  have hww : (w != w) = false := by simp
  have dT : rightB (decI w) = true → decT w = (decI w, true) := fun hr => by unfold decT; rw [if_pos hr]
  have dF : rightB (decI w) = false → decT w = (zeroI, false) := fun hr => by unfold decT; rw [hr]; rfl
  have zv : zeroI.v = .agg [.s (.int .i64 0), .s (.int .i64 0), .s (.int .i64 0), .s (.int .i64 0), .s (.int .i64 0)] := rfl
  by_cases hm : 8192 ≤ w % 16384
  all_goals first | rw [if_pos hm] at hmm | rw [if_neg hm] at hmm
  all_goals
    rw [hmm] at he0 hv
    cases hr : rightB (decI w)
  all_goals first | (rw [hx hr] at he0; rw [dT hr]) | (rw [hy hr] at he0; rw [dF hr])
  all_goals simp only [hv, zv]
  all_goals simp only at he0
  all_goals
  simp only [go_sem, Nat.reduceEqDiff, Nat.reduceLT, Nat.reduceLeDiff, Nat.reduceAdd, Nat.reduceSub, Nat.reduceMul, Nat.reduceBEq, ↓reduceIte, reduceCtorEq, Int.reduceLT, Int.reduceToNat, UInt8.reduceToNat, Int.reduceLE, Int.reduceBEq, Int.reduceBNe, Int.reduceAdd, Int.reduceSub, Int.reduceMul, Int.reduceNeg, cImg8_at, spEncode_mv, he0, hm, hww, e1, e2, e3, e4, e5, e6, decide_true, decide_false]
  repeat' (first | (refine AG_of ?_ ?_ <;> intro h <;> simp only [go_sem, Nat.reduceEqDiff, Nat.reduceLT, Nat.reduceLeDiff, Nat.reduceAdd, Nat.reduceSub, Nat.reduceMul, Nat.reduceBEq, ↓reduceIte, reduceCtorEq, Int.reduceLT, Int.reduceToNat, UInt8.reduceToNat, Int.reduceLE, Int.reduceBEq, Int.reduceBNe, Int.reduceAdd, Int.reduceSub, Int.reduceMul, Int.reduceNeg, cImg8_at, spEncode_mv, he0, hm, hww, e1, e2, e3, e4, e5, e6, decide_true, decide_false, h]) | (refine AB_of ?_ ?_ <;> intro h <;> simp only [go_sem, Nat.reduceEqDiff, Nat.reduceLT, Nat.reduceLeDiff, Nat.reduceAdd, Nat.reduceSub, Nat.reduceMul, Nat.reduceBEq, ↓reduceIte, reduceCtorEq, Int.reduceLT, Int.reduceToNat, UInt8.reduceToNat, Int.reduceLE, Int.reduceBEq, Int.reduceBNe, Int.reduceAdd, Int.reduceSub, Int.reduceMul, Int.reduceNeg, cImg8_at, spEncode_mv, he0, hm, hww, e1, e2, e3, e4, e5, e6, decide_true, decide_false, h]) | (refine A_draw_of [] [] (by kernel_rfl) ?_ <;> simp only [go_sem, Nat.reduceEqDiff, Nat.reduceLT, Nat.reduceLeDiff, Nat.reduceAdd, Nat.reduceSub, Nat.reduceMul, Nat.reduceBEq, ↓reduceIte, reduceCtorEq, Int.reduceLT, Int.reduceToNat, UInt8.reduceToNat, Int.reduceLE, Int.reduceBEq, Int.reduceBNe, Int.reduceAdd, Int.reduceSub, Int.reduceMul, Int.reduceNeg, cImg8_at, spEncode_mv, he0, hm, hww, e1, e2, e3, e4, e5, e6, decide_true, decide_false]))
  all_goals (first | refine fin_ret ?_ | refine fin_normal ?_)
  all_goals simp only [resOf, Try.results26, Try.ntmps26, go_sem, Nat.reduceEqDiff, Nat.reduceLT, Nat.reduceLeDiff, Nat.reduceAdd, Nat.reduceSub, Nat.reduceMul, Nat.reduceBEq, ↓reduceIte, reduceCtorEq, Int.reduceLT, Int.reduceToNat, UInt8.reduceToNat, Int.reduceLE, Int.reduceBEq, Int.reduceBNe, Int.reduceAdd, Int.reduceSub, Int.reduceMul, Int.reduceNeg]
end Go.Proofs.Ytecckfhmgnlmnaa
