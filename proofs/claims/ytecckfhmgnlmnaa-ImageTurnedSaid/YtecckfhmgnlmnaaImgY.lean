/-
ImageBack by the plain reckoning. No condition.
-/
import Derived.Test.YtecckfhmgnlmnaaImgX
namespace Go.Proofs.Ytecckfhmgnlmnaa
set_option linter.unusedSimpArgs false

def cImg15 : Orc := upd cImg14 18 (some spBytes)
theorem cImg15_ok : ∀ g sp, cImg15 g = some sp → Impl Try.prog g sp := orc_upd cImg14_ok bytes_impl
theorem cImg15_at : cImg15 9 = some spTrue ∧ cImg15 18 = some spBytes ∧ cImg15 19 = some spBytesL ∧ cImg15 20 = some spSame ∧
    cImg15 15 = some spNum ∧ cImg15 10 = some spFew ∧ cImg15 11 = some spRead ∧
    cImg15 13 = some spRightP ∧ cImg15 14 = some spRightP ∧ cImg15 16 = some spTargets ∧ cImg15 21 = some spRPut := ⟨rfl, rfl, rfl, rfl, rfl, rfl, rfl, rfl, rfl, rfl, rfl⟩

def spBack : Spec := ⟨[], fun xs => match xs with
  | [x, .s (.int .i64 cut), .s (.int .u8 more)] => (prgOf x).bind fun p => if p.data.all byte = true ∧ byte more = true ∧ cut ≤ 9223372036854775807 then some (.s (.bool true)) else none
  | _ => none⟩
set_option maxHeartbeats 4000000 in
set_option maxRecDepth 8000 in
theorem back_impl : Impl Try.prog 4 spBack := by
  refine impl_walk2 mixed cImg15_ok eqT_ok Try.func4 rfl Try.ntmps4 (by kernel_rfl) ?_
  intro xs r h
  unfold spBack at h
  simp only at h
  (try split at h) <;> try (cases (show none = some r from h); done)
  rename_i x cut more
  obtain ⟨p, hp, h3⟩ := Option.bind_eq_some_iff.1 h
  clear h
  split at h3
  case isFalse => cases h3
  rename_i hb
  cases h3
  obtain ⟨hd, hmore, _⟩ := hb
  refine ⟨_, (SeesL.cons (prgOf_sees hp) .same).args, by simp, ?_⟩
  have hf := few_v p
  have hr := rightP_v p
  simp only [Prg.v] at hf hr
  cases c1 : fewB p
  · rw [c1] at hf
    simp only [go_sem, Nat.reduceEqDiff, Nat.reduceLT, Nat.reduceLeDiff, Nat.reduceAdd, Nat.reduceSub, Nat.reduceMul, Nat.reduceBEq, ↓reduceIte, reduceCtorEq, Int.reduceLT, Int.reduceToNat, UInt8.reduceToNat, Int.reduceLE, Int.reduceBEq, Int.reduceBNe, Int.reduceAdd, Int.reduceSub, Int.reduceMul, Int.reduceNeg, Prg.v, cImg15_at, spTrue_mv, spTrue_fn, spFew_mv, hf]
    repeat' (first | (refine AG_of ?_ ?_ <;> intro h <;> simp only [go_sem, Nat.reduceEqDiff, Nat.reduceLT, Nat.reduceLeDiff, Nat.reduceAdd, Nat.reduceSub, Nat.reduceMul, Nat.reduceBEq, ↓reduceIte, reduceCtorEq, Int.reduceLT, Int.reduceToNat, UInt8.reduceToNat, Int.reduceLE, Int.reduceBEq, Int.reduceBNe, Int.reduceAdd, Int.reduceSub, Int.reduceMul, Int.reduceNeg, Prg.v, cImg15_at, spTrue_mv, spTrue_fn, spFew_mv, hf, h]) | (refine AB_of ?_ ?_ <;> intro h <;> simp only [go_sem, Nat.reduceEqDiff, Nat.reduceLT, Nat.reduceLeDiff, Nat.reduceAdd, Nat.reduceSub, Nat.reduceMul, Nat.reduceBEq, ↓reduceIte, reduceCtorEq, Int.reduceLT, Int.reduceToNat, UInt8.reduceToNat, Int.reduceLE, Int.reduceBEq, Int.reduceBNe, Int.reduceAdd, Int.reduceSub, Int.reduceMul, Int.reduceNeg, Prg.v, cImg15_at, spTrue_mv, spTrue_fn, spFew_mv, hf, h]) | (refine A_draw_of [] [] (by kernel_rfl) ?_ <;> simp only [go_sem, Nat.reduceEqDiff, Nat.reduceLT, Nat.reduceLeDiff, Nat.reduceAdd, Nat.reduceSub, Nat.reduceMul, Nat.reduceBEq, ↓reduceIte, reduceCtorEq, Int.reduceLT, Int.reduceToNat, UInt8.reduceToNat, Int.reduceLE, Int.reduceBEq, Int.reduceBNe, Int.reduceAdd, Int.reduceSub, Int.reduceMul, Int.reduceNeg, Prg.v, cImg15_at, spTrue_mv, spTrue_fn, spFew_mv, hf]))
    all_goals (first | refine fin_ret ?_ | refine fin_normal ?_)
    all_goals simp only [resOf, Try.results4, Try.ntmps4, go_sem, Nat.reduceEqDiff, Nat.reduceLT, Nat.reduceLeDiff, Nat.reduceAdd, Nat.reduceSub, Nat.reduceMul, Nat.reduceBEq, ↓reduceIte, reduceCtorEq, Int.reduceLT, Int.reduceToNat, UInt8.reduceToNat, Int.reduceLE, Int.reduceBEq, Int.reduceBNe, Int.reduceAdd, Int.reduceSub, Int.reduceMul, Int.reduceNeg]
  cases c2 : rightP p
  · rw [c1] at hf
    rw [c2] at hr
    simp only [go_sem, Nat.reduceEqDiff, Nat.reduceLT, Nat.reduceLeDiff, Nat.reduceAdd, Nat.reduceSub, Nat.reduceMul, Nat.reduceBEq, ↓reduceIte, reduceCtorEq, Int.reduceLT, Int.reduceToNat, UInt8.reduceToNat, Int.reduceLE, Int.reduceBEq, Int.reduceBNe, Int.reduceAdd, Int.reduceSub, Int.reduceMul, Int.reduceNeg, Prg.v, cImg15_at, spTrue_mv, spTrue_fn, spFew_mv, hf, spRightP_mv, hr]
    repeat' (first | (refine AG_of ?_ ?_ <;> intro h <;> simp only [go_sem, Nat.reduceEqDiff, Nat.reduceLT, Nat.reduceLeDiff, Nat.reduceAdd, Nat.reduceSub, Nat.reduceMul, Nat.reduceBEq, ↓reduceIte, reduceCtorEq, Int.reduceLT, Int.reduceToNat, UInt8.reduceToNat, Int.reduceLE, Int.reduceBEq, Int.reduceBNe, Int.reduceAdd, Int.reduceSub, Int.reduceMul, Int.reduceNeg, Prg.v, cImg15_at, spTrue_mv, spTrue_fn, spFew_mv, hf, spRightP_mv, hr, h]) | (refine AB_of ?_ ?_ <;> intro h <;> simp only [go_sem, Nat.reduceEqDiff, Nat.reduceLT, Nat.reduceLeDiff, Nat.reduceAdd, Nat.reduceSub, Nat.reduceMul, Nat.reduceBEq, ↓reduceIte, reduceCtorEq, Int.reduceLT, Int.reduceToNat, UInt8.reduceToNat, Int.reduceLE, Int.reduceBEq, Int.reduceBNe, Int.reduceAdd, Int.reduceSub, Int.reduceMul, Int.reduceNeg, Prg.v, cImg15_at, spTrue_mv, spTrue_fn, spFew_mv, hf, spRightP_mv, hr, h]) | (refine A_draw_of [] [] (by kernel_rfl) ?_ <;> simp only [go_sem, Nat.reduceEqDiff, Nat.reduceLT, Nat.reduceLeDiff, Nat.reduceAdd, Nat.reduceSub, Nat.reduceMul, Nat.reduceBEq, ↓reduceIte, reduceCtorEq, Int.reduceLT, Int.reduceToNat, UInt8.reduceToNat, Int.reduceLE, Int.reduceBEq, Int.reduceBNe, Int.reduceAdd, Int.reduceSub, Int.reduceMul, Int.reduceNeg, Prg.v, cImg15_at, spTrue_mv, spTrue_fn, spFew_mv, hf, spRightP_mv, hr]))
    all_goals (first | refine fin_ret ?_ | refine fin_normal ?_)
    all_goals simp only [resOf, Try.results4, Try.ntmps4, go_sem, Nat.reduceEqDiff, Nat.reduceLT, Nat.reduceLeDiff, Nat.reduceAdd, Nat.reduceSub, Nat.reduceMul, Nat.reduceBEq, ↓reduceIte, reduceCtorEq, Int.reduceLT, Int.reduceToNat, UInt8.reduceToNat, Int.reduceLE, Int.reduceBEq, Int.reduceBNe, Int.reduceAdd, Int.reduceSub, Int.reduceMul, Int.reduceNeg]
  rw [c1] at hf
  rw [c2] at hr
  by_cases c3 : cut < 0
  · have g3 : decide (cut < 0) = true := by simp [c3]
    simp only [go_sem, Nat.reduceEqDiff, Nat.reduceLT, Nat.reduceLeDiff, Nat.reduceAdd, Nat.reduceSub, Nat.reduceMul, Nat.reduceBEq, ↓reduceIte, reduceCtorEq, Int.reduceLT, Int.reduceToNat, UInt8.reduceToNat, Int.reduceLE, Int.reduceBEq, Int.reduceBNe, Int.reduceAdd, Int.reduceSub, Int.reduceMul, Int.reduceNeg, Prg.v, cImg15_at, spTrue_mv, spTrue_fn, spFew_mv, hf, spRightP_mv, hr, g3]
    repeat' (first | (refine AG_of ?_ ?_ <;> intro h <;> simp only [go_sem, Nat.reduceEqDiff, Nat.reduceLT, Nat.reduceLeDiff, Nat.reduceAdd, Nat.reduceSub, Nat.reduceMul, Nat.reduceBEq, ↓reduceIte, reduceCtorEq, Int.reduceLT, Int.reduceToNat, UInt8.reduceToNat, Int.reduceLE, Int.reduceBEq, Int.reduceBNe, Int.reduceAdd, Int.reduceSub, Int.reduceMul, Int.reduceNeg, Prg.v, cImg15_at, spTrue_mv, spTrue_fn, spFew_mv, hf, spRightP_mv, hr, g3, h]) | (refine AB_of ?_ ?_ <;> intro h <;> simp only [go_sem, Nat.reduceEqDiff, Nat.reduceLT, Nat.reduceLeDiff, Nat.reduceAdd, Nat.reduceSub, Nat.reduceMul, Nat.reduceBEq, ↓reduceIte, reduceCtorEq, Int.reduceLT, Int.reduceToNat, UInt8.reduceToNat, Int.reduceLE, Int.reduceBEq, Int.reduceBNe, Int.reduceAdd, Int.reduceSub, Int.reduceMul, Int.reduceNeg, Prg.v, cImg15_at, spTrue_mv, spTrue_fn, spFew_mv, hf, spRightP_mv, hr, g3, h]) | (refine A_draw_of [] [] (by kernel_rfl) ?_ <;> simp only [go_sem, Nat.reduceEqDiff, Nat.reduceLT, Nat.reduceLeDiff, Nat.reduceAdd, Nat.reduceSub, Nat.reduceMul, Nat.reduceBEq, ↓reduceIte, reduceCtorEq, Int.reduceLT, Int.reduceToNat, UInt8.reduceToNat, Int.reduceLE, Int.reduceBEq, Int.reduceBNe, Int.reduceAdd, Int.reduceSub, Int.reduceMul, Int.reduceNeg, Prg.v, cImg15_at, spTrue_mv, spTrue_fn, spFew_mv, hf, spRightP_mv, hr, g3]))
    all_goals (first | refine fin_ret ?_ | refine fin_normal ?_)
    all_goals simp only [resOf, Try.results4, Try.ntmps4, go_sem, Nat.reduceEqDiff, Nat.reduceLT, Nat.reduceLeDiff, Nat.reduceAdd, Nat.reduceSub, Nat.reduceMul, Nat.reduceBEq, ↓reduceIte, reduceCtorEq, Int.reduceLT, Int.reduceToNat, UInt8.reduceToNat, Int.reduceLE, Int.reduceBEq, Int.reduceBNe, Int.reduceAdd, Int.reduceSub, Int.reduceMul, Int.reduceNeg]
  have g3 : decide (cut < 0) = false := by simp; omega
  obtain ⟨q1, q2, q3, q4, q5, _, _⟩ := rightP_parts c2
  have hL := imgB_len p
  have hil := imgB_byte hd
  obtain ⟨L, hLe⟩ : ∃ L, (imgB p).length = L := ⟨_, rfl⟩
  have hfw := c1
  simp only [fewB, Bool.and_eq_true, decide_eq_true_eq] at hfw
  have hL2 : L = 16 + 4 * p.code.length + p.data.length := by omega
  obtain ⟨j, hj, hjl⟩ : ∃ j : Nat, cut.tmod (L : Int) = j ∧ j < L := by
    have h0 : 0 ≤ cut.tmod (L : Int) := Int.tmod_nonneg _ (by omega)
    have h1 : cut.tmod (L : Int) < L := Int.tmod_lt_of_pos _ (by omega)
    exact ⟨(cut.tmod (L : Int)).toNat, by omega, by omega⟩
  have hb1 := bytes_v c2
  have R1 : spRead.fn [.lst false 1 ((imgB p).map u8v)] = some (.tup [optV (some p), .s (.int .i64 0)]) := by
    rw [read_v hil (by omega), read_img c2 hd]
  have R2 : spRead.fn [.lst false 1 (((imgB p).take j).map u8v)] = some (.tup [optV none, .s (.int .i64 2)]) := by
    have : readX ((imgB p).take j) = (none, 2) := by
      by_cases h16 : j < 16
      · unfold readX
        rw [if_pos (by rw [List.length_take]; omega)]
      · exact read_len c2 hd (by rw [List.take_take, Nat.min_eq_left (by omega)]) (by rw [List.all_eq_true] at *; exact fun x hx => hil x (List.mem_of_mem_take hx)) (by rw [List.length_take]; omega)
    rw [read_v (by rw [List.all_eq_true] at *; exact fun x hx => hil x (List.mem_of_mem_take hx)) (by rw [List.length_take]; omega), this]
  have R3 : spRead.fn [.lst false 1 ((imgB p).map u8v ++ [.s (.int .u8 more)])] = some (.tup [optV none, .s (.int .i64 2)]) := by
    have hal : (imgB p ++ [more]).all byte = true := by rw [List.all_append, hil]; simp [hmore]
    have : readX (imgB p ++ [more]) = (none, 2) := read_len c2 hd (by rw [List.take_append_of_le_length (by omega)]) hal (by simp)
    have e : (imgB p).map u8v ++ [.s (.int .u8 more)] = (imgB p ++ [more]).map u8v := by simp [u8v]
    rw [e, read_v hal (by simp; omega), this]
  have hs : spSame.fn [p.v, p.v] = some (.s (.bool true)) := by
    have hl : (optP (some p)).code.length ≤ 1000000000 := by show p.code.length ≤ _; omega
    have := same_opt (p := p) hl
    rw [show sameP (optP (some p)) p = true from sameP_self p] at this
    exact this
  have tk : List.take j ((imgB p).map u8v) = ((imgB p).take j).map u8v := List.map_take.symm
  have f1 : (L + 1) * 1 ≤ 140737488355328 := by omega
  have g4 : ((L : Int) == 0) = false := by simp; omega
  have g5 : ¬ ((L : Int) = 0) := by omega
  have g6 : (j : Int) ≤ L := by omega
  have z1 := Int.natCast_nonneg j
  have g7 : j ≤ L := by omega
  have w1 : IntKind.i64.wrap (4 * (p.code.length : Int)) = 4 * p.code.length := w_i64 (by omega) (by omega)
  have w2 : IntKind.i64.wrap (16 + 4 * (p.code.length : Int)) = 16 + 4 * p.code.length := w_i64 (by omega) (by omega)
  have w3 : IntKind.i64.wrap (16 + 4 * (p.code.length : Int) + p.data.length) = L := by rw [w_i64 (by omega) (by omega)]; omega
  have hrow : ((imgB p).map u8v).length = L := by simp [hLe]
  simp only [Prg.v] at hb1 hs
  simp only [optV] at R1 R2 R3
  simp only [go_sem, Nat.reduceEqDiff, Nat.reduceLT, Nat.reduceLeDiff, Nat.reduceAdd, Nat.reduceSub, Nat.reduceMul, Nat.reduceBEq, ↓reduceIte, reduceCtorEq, Int.reduceLT, Int.reduceToNat, UInt8.reduceToNat, Int.reduceLE, Int.reduceBEq, Int.reduceBNe, Int.reduceAdd, Int.reduceSub, Int.reduceMul, Int.reduceNeg, Prg.v, cImg15_at, spTrue_mv, spTrue_fn, spFew_mv, hf, spRightP_mv, hr, g3, hb1, spBytes_mv, spRead_mv, R1, R2, R3, hrow, hj, g4, g5, g6, z1, tk, f1, spNum_mv, spNum_fn, spSame_mv, hs, w1, w2, w3, g7, Nat.sub_zero, List.length_map, Int.toNat_natCast]
  repeat' (first | (refine AG_of ?_ ?_ <;> intro h <;> simp only [go_sem, Nat.reduceEqDiff, Nat.reduceLT, Nat.reduceLeDiff, Nat.reduceAdd, Nat.reduceSub, Nat.reduceMul, Nat.reduceBEq, ↓reduceIte, reduceCtorEq, Int.reduceLT, Int.reduceToNat, UInt8.reduceToNat, Int.reduceLE, Int.reduceBEq, Int.reduceBNe, Int.reduceAdd, Int.reduceSub, Int.reduceMul, Int.reduceNeg, Prg.v, cImg15_at, spTrue_mv, spTrue_fn, spFew_mv, hf, spRightP_mv, hr, g3, hb1, spBytes_mv, spRead_mv, R1, R2, R3, hrow, hj, g4, g5, g6, z1, tk, f1, spNum_mv, spNum_fn, spSame_mv, hs, w1, w2, w3, g7, Nat.sub_zero, List.length_map, Int.toNat_natCast, h]) | (refine AB_of ?_ ?_ <;> intro h <;> simp only [go_sem, Nat.reduceEqDiff, Nat.reduceLT, Nat.reduceLeDiff, Nat.reduceAdd, Nat.reduceSub, Nat.reduceMul, Nat.reduceBEq, ↓reduceIte, reduceCtorEq, Int.reduceLT, Int.reduceToNat, UInt8.reduceToNat, Int.reduceLE, Int.reduceBEq, Int.reduceBNe, Int.reduceAdd, Int.reduceSub, Int.reduceMul, Int.reduceNeg, Prg.v, cImg15_at, spTrue_mv, spTrue_fn, spFew_mv, hf, spRightP_mv, hr, g3, hb1, spBytes_mv, spRead_mv, R1, R2, R3, hrow, hj, g4, g5, g6, z1, tk, f1, spNum_mv, spNum_fn, spSame_mv, hs, w1, w2, w3, g7, Nat.sub_zero, List.length_map, Int.toNat_natCast, h]) | (refine A_draw_of [] [] (by kernel_rfl) ?_ <;> simp only [go_sem, Nat.reduceEqDiff, Nat.reduceLT, Nat.reduceLeDiff, Nat.reduceAdd, Nat.reduceSub, Nat.reduceMul, Nat.reduceBEq, ↓reduceIte, reduceCtorEq, Int.reduceLT, Int.reduceToNat, UInt8.reduceToNat, Int.reduceLE, Int.reduceBEq, Int.reduceBNe, Int.reduceAdd, Int.reduceSub, Int.reduceMul, Int.reduceNeg, Prg.v, cImg15_at, spTrue_mv, spTrue_fn, spFew_mv, hf, spRightP_mv, hr, g3, hb1, spBytes_mv, spRead_mv, R1, R2, R3, hrow, hj, g4, g5, g6, z1, tk, f1, spNum_mv, spNum_fn, spSame_mv, hs, w1, w2, w3, g7, Nat.sub_zero, List.length_map, Int.toNat_natCast]))
  all_goals (first | refine fin_ret ?_ | refine fin_normal ?_)
  all_goals simp only [resOf, Try.results4, Try.ntmps4, go_sem, Nat.reduceEqDiff, Nat.reduceLT, Nat.reduceLeDiff, Nat.reduceAdd, Nat.reduceSub, Nat.reduceMul, Nat.reduceBEq, ↓reduceIte, reduceCtorEq, Int.reduceLT, Int.reduceToNat, UInt8.reduceToNat, Int.reduceLE, Int.reduceBEq, Int.reduceBNe, Int.reduceAdd, Int.reduceSub, Int.reduceMul, Int.reduceNeg]
end Go.Proofs.Ytecckfhmgnlmnaa
