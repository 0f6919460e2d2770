/-
Package isa by the plain reckoning: Encode, Decode, Writes, Reads. No condition.
-/
import Derived.Test.YtecckfhmgnlmnaaFIsb
import Derived.Test.YtecckfhmgnlmnaaAbF
namespace Go.Proofs.Ytecckfhmgnlmnaa
set_option linter.unusedSimpArgs false

def spEncode : Spec := ⟨[], fun xs => match xs with
  | [.agg [.s (.int .i64 op), .s (.int .i64 d), .s (.int .i64 a), .s (.int .i64 b), .s (.int .i64 imm)]] => some (.tup [.s (.int .u32 (encT ⟨op, d, a, b, imm⟩).1), .s (.bool (encT ⟨op, d, a, b, imm⟩).2)])
  | _ => none⟩
def spDecode : Spec := ⟨[], fun xs => match xs with
  | [.s (.int .u32 w)] => if 0 ≤ w ∧ w < 4294967296 then some (.tup [(decT w).1.v, .s (.bool (decT w).2)]) else none
  | _ => none⟩

def cIsa2 : Orc := upd cIsa1 28 (some spRight)
theorem cIsa2_ok : ∀ g sp, cIsa2 g = some sp → Impl Try.prog g sp := orc_upd cIsa1_ok right_impl
theorem cIsa2_at : cIsa2 28 = some spRight ∧ cIsa2 38 = some spForm ∧ cIsa2 40 = some spHasD ∧ cIsa2 41 = some spHasA ∧ cIsa2 42 = some spHasB := ⟨rfl, rfl, rfl, rfl, rfl⟩
theorem spRight_mv : spRight.mv = [] := rfl
theorem spRight_fn (op d a b imm : Int) : spRight.fn [.agg [.s (.int .i64 op), .s (.int .i64 d), .s (.int .i64 a), .s (.int .i64 b), .s (.int .i64 imm)]] = some (.s (.bool (rightB ⟨op, d, a, b, imm⟩))) := rfl

set_option maxHeartbeats 1000000 in
theorem encode_impl : Impl Try.prog 36 spEncode := by
  refine impl_walk mixed cIsa2_ok eqT_ok Try.func36 rfl Try.ntmps36 (by kernel_rfl) ?_
  intro xs r h
  unfold spEncode at h
  simp only at h
  (try split at h) <;> try (cases (show none = some r from h); done)
  rename_i op d a b imm
  cases h
  refine ⟨by simp, ?_⟩
  simp only [go_sem, Nat.reduceEqDiff, Nat.reduceLT, Nat.reduceLeDiff, Nat.reduceAdd, Nat.reduceSub, Nat.reduceMul, Nat.reduceBEq, ↓reduceIte, reduceCtorEq, Int.reduceLT, Int.reduceToNat, UInt8.reduceToNat, Int.reduceLE, Int.reduceBEq, Int.reduceBNe, Int.reduceAdd, Int.reduceSub, Int.reduceMul, Int.reduceNeg, cIsa2_at, spRight_mv, spRight_fn]
  repeat' (first | (refine AG_of ?_ ?_ <;> intro h <;> simp only [go_sem, Nat.reduceEqDiff, Nat.reduceLT, Nat.reduceLeDiff, Nat.reduceAdd, Nat.reduceSub, Nat.reduceMul, Nat.reduceBEq, ↓reduceIte, reduceCtorEq, Int.reduceLT, Int.reduceToNat, UInt8.reduceToNat, Int.reduceLE, Int.reduceBEq, Int.reduceBNe, Int.reduceAdd, Int.reduceSub, Int.reduceMul, Int.reduceNeg, cIsa2_at, spRight_mv, spRight_fn, h]) | (refine AB_of ?_ ?_ <;> intro h <;> simp only [go_sem, Nat.reduceEqDiff, Nat.reduceLT, Nat.reduceLeDiff, Nat.reduceAdd, Nat.reduceSub, Nat.reduceMul, Nat.reduceBEq, ↓reduceIte, reduceCtorEq, Int.reduceLT, Int.reduceToNat, UInt8.reduceToNat, Int.reduceLE, Int.reduceBEq, Int.reduceBNe, Int.reduceAdd, Int.reduceSub, Int.reduceMul, Int.reduceNeg, cIsa2_at, spRight_mv, spRight_fn, h]) | (refine A_draw_of [] [] (by kernel_rfl) ?_ <;> simp only [go_sem, Nat.reduceEqDiff, Nat.reduceLT, Nat.reduceLeDiff, Nat.reduceAdd, Nat.reduceSub, Nat.reduceMul, Nat.reduceBEq, ↓reduceIte, reduceCtorEq, Int.reduceLT, Int.reduceToNat, UInt8.reduceToNat, Int.reduceLE, Int.reduceBEq, Int.reduceBNe, Int.reduceAdd, Int.reduceSub, Int.reduceMul, Int.reduceNeg, cIsa2_at, spRight_mv, spRight_fn]))
  all_goals (first | refine fin_ret ?_ | refine fin_normal ?_)
  all_goals simp only [resOf, Try.results36, Try.ntmps36, go_sem, Nat.reduceEqDiff, Nat.reduceLT, Nat.reduceLeDiff, Nat.reduceAdd, Nat.reduceSub, Nat.reduceMul, Nat.reduceBEq, ↓reduceIte, reduceCtorEq, Int.reduceLT, Int.reduceToNat, UInt8.reduceToNat, Int.reduceLE, Int.reduceBEq, Int.reduceBNe, Int.reduceAdd, Int.reduceSub, Int.reduceMul, Int.reduceNeg]
  · simp only [Bool.not_eq_true'] at h
    rw [encT_wrong h]
  · simp only [Bool.not_eq_false'] at h
    rw [encT_right h]
    obtain ⟨o0, o1, d0, d1, a0, a1, b0, b1, m0, m1⟩ := right_fit h
    simp only at o0 o1 d0 d1 a0 a1 b0 b1 m0 m1
    have := enc_bits (imm := imm) o0 o1 d0 d1 a0 a1 b0 b1
    simp only [IntKind.wrap_u32]
    rw [Int.emod_eq_of_lt (show (0 : Int) ≤ op by omega) (by omega), Int.emod_eq_of_lt (show (0 : Int) ≤ d by omega) (by omega), Int.emod_eq_of_lt (show (0 : Int) ≤ a by omega) (by omega), Int.emod_eq_of_lt (show (0 : Int) ≤ b by omega) (by omega),
      Int.emod_eq_of_lt (show (0 : Int) ≤ op * 67108864 by omega) (by omega), Int.emod_eq_of_lt (show (0 : Int) ≤ d * 4194304 by omega) (by omega), Int.emod_eq_of_lt (show (0 : Int) ≤ a * 262144 by omega) (by omega), Int.emod_eq_of_lt (show (0 : Int) ≤ b * 16384 by omega) (by omega), this]

set_option maxHeartbeats 1000000 in
theorem decode_impl : Impl Try.prog 24 spDecode := by
  refine impl_walk mixed cIsa2_ok eqT_ok Try.func24 rfl Try.ntmps24 (by kernel_rfl) ?_
  intro xs r h
  unfold spDecode at h
  simp only at h
  (try split at h) <;> try (cases (show none = some r from h); done)
  rename_i w
  split at h
  case isFalse => cases h
  rename_i hw
  obtain ⟨h0, h1⟩ := hw
  cases h
  refine ⟨by simp, ?_⟩
  have e1 : IntKind.i64.wrap (w.fdiv 67108864) = w / 67108864 := by
    rw [Int.fdiv_eq_ediv_of_nonneg _ (by decide), IntKind.wrap_i64]; omega
  have e2 : IntKind.i64.wrap (bits .and .u32 (w.fdiv 4194304) 15) = w / 4194304 % 16 := by
    rw [Int.fdiv_eq_ediv_of_nonneg _ (by decide), and_15 _ (by omega) (by omega), IntKind.wrap_i64]; omega
  have e3 : IntKind.i64.wrap (bits .and .u32 (w.fdiv 262144) 15) = w / 262144 % 16 := by
    rw [Int.fdiv_eq_ediv_of_nonneg _ (by decide), and_15 _ (by omega) (by omega), IntKind.wrap_i64]; omega
  have e4 : IntKind.i64.wrap (bits .and .u32 (w.fdiv 16384) 15) = w / 16384 % 16 := by
    rw [Int.fdiv_eq_ediv_of_nonneg _ (by decide), and_15 _ (by omega) (by omega), IntKind.wrap_i64]; omega
  have e5 : IntKind.i64.wrap (bits .and .u32 w 16383) = w % 16384 := by
    rw [and_low _ h0 h1, IntKind.wrap_i64]; omega
  have e6 : IntKind.i64.wrap (w % 16384 - 16384) = w % 16384 - 16384 := by
    rw [IntKind.wrap_i64]; omega
  simp only [go_sem, Nat.reduceEqDiff, Nat.reduceLT, Nat.reduceLeDiff, Nat.reduceAdd, Nat.reduceSub, Nat.reduceMul, Nat.reduceBEq, ↓reduceIte, reduceCtorEq, Int.reduceLT, Int.reduceToNat, UInt8.reduceToNat, Int.reduceLE, Int.reduceBEq, Int.reduceBNe, Int.reduceAdd, Int.reduceSub, Int.reduceMul, Int.reduceNeg, cIsa2_at, spRight_mv, spRight_fn, e1, e2, e3, e4, e5, e6]
  repeat' (first | (refine AG_of ?_ ?_ <;> intro h <;> simp only [go_sem, Nat.reduceEqDiff, Nat.reduceLT, Nat.reduceLeDiff, Nat.reduceAdd, Nat.reduceSub, Nat.reduceMul, Nat.reduceBEq, ↓reduceIte, reduceCtorEq, Int.reduceLT, Int.reduceToNat, UInt8.reduceToNat, Int.reduceLE, Int.reduceBEq, Int.reduceBNe, Int.reduceAdd, Int.reduceSub, Int.reduceMul, Int.reduceNeg, cIsa2_at, spRight_mv, spRight_fn, e1, e2, e3, e4, e5, e6, h]) | (refine AB_of ?_ ?_ <;> intro h <;> simp only [go_sem, Nat.reduceEqDiff, Nat.reduceLT, Nat.reduceLeDiff, Nat.reduceAdd, Nat.reduceSub, Nat.reduceMul, Nat.reduceBEq, ↓reduceIte, reduceCtorEq, Int.reduceLT, Int.reduceToNat, UInt8.reduceToNat, Int.reduceLE, Int.reduceBEq, Int.reduceBNe, Int.reduceAdd, Int.reduceSub, Int.reduceMul, Int.reduceNeg, cIsa2_at, spRight_mv, spRight_fn, e1, e2, e3, e4, e5, e6, h]) | (refine A_draw_of [] [] (by kernel_rfl) ?_ <;> simp only [go_sem, Nat.reduceEqDiff, Nat.reduceLT, Nat.reduceLeDiff, Nat.reduceAdd, Nat.reduceSub, Nat.reduceMul, Nat.reduceBEq, ↓reduceIte, reduceCtorEq, Int.reduceLT, Int.reduceToNat, UInt8.reduceToNat, Int.reduceLE, Int.reduceBEq, Int.reduceBNe, Int.reduceAdd, Int.reduceSub, Int.reduceMul, Int.reduceNeg, cIsa2_at, spRight_mv, spRight_fn, e1, e2, e3, e4, e5, e6]))
  all_goals (first | refine fin_ret ?_ | refine fin_normal ?_)
  all_goals simp only [resOf, Try.results24, Try.ntmps24, go_sem, Nat.reduceEqDiff, Nat.reduceLT, Nat.reduceLeDiff, Nat.reduceAdd, Nat.reduceSub, Nat.reduceMul, Nat.reduceBEq, ↓reduceIte, reduceCtorEq, Int.reduceLT, Int.reduceToNat, UInt8.reduceToNat, Int.reduceLE, Int.reduceBEq, Int.reduceBNe, Int.reduceAdd, Int.reduceSub, Int.reduceMul, Int.reduceNeg]
  all_goals
    rename_i hb
    have hr := h
    simp only [Bool.not_eq_true', Bool.not_eq_false', decide_eq_true_eq, decide_eq_false_iff_not, ge_iff_le] at hb hr
    have hi : decI w = ⟨w / 67108864, w / 4194304 % 16, w / 262144 % 16, w / 16384 % 16, immOf w⟩ := rfl
    have hm : immOf w = if 8192 ≤ w % 16384 then w % 16384 - 16384 else w % 16384 := rfl
    first | rw [if_pos hb] at hm | rw [if_neg hb] at hm
    rw [hm] at hi
    unfold decT
    rw [hi, hr]
    rfl
end Go.Proofs.Ytecckfhmgnlmnaa
