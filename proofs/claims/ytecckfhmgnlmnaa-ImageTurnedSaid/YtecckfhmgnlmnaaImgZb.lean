/-
ImageTurned by the plain reckoning. No condition.
-/
import Derived.Test.YtecckfhmgnlmnaaImgY
namespace Go.Proofs.Ytecckfhmgnlmnaa
set_option linter.unusedSimpArgs false

theorem xor_bit {a : Int} (h : byte a = true) {j : Nat} (hj : j < 8) : byte (bits .xor .u8 a (2 ^ j)) = true ∧ bits .xor .u8 a (2 ^ j) ≠ a := by
  simp only [byte, Bool.and_eq_true, decide_eq_true_eq] at h
  obtain ⟨n, rfl⟩ : ∃ n : Nat, a = n := ⟨a.toNat, by omega⟩
  have all : ∀ n : _root_.Fin 256, ∀ j : _root_.Fin 8, (byte (bits .xor .u8 ((n.val : Nat) : Int) (2 ^ j.val)) && decide (bits .xor .u8 ((n.val : Nat) : Int) (2 ^ j.val) ≠ ((n.val : Nat) : Int))) = true := by decide +kernel
  have := all ⟨n, by omega⟩ ⟨j, hj⟩
  simpa using this

def spTurn : Spec := ⟨[], fun xs => match xs with
  | [x, .s (.int .i64 bit)] => (prgOf x).bind fun p => if p.data.all byte = true ∧ bit ≤ 9223372036854775807 then some (.s (.bool true)) else none
  | _ => none⟩
set_option maxHeartbeats 8000000 in
set_option maxRecDepth 8000 in
theorem turn_impl : Impl Try.prog 7 spTurn := by
  refine impl_walk2 mixed cImg14_ok eqT_ok Try.func7 rfl Try.ntmps7 (by kernel_rfl) ?_
  intro xs r h
  unfold spTurn at h
  simp only at h
  (try split at h) <;> try (cases (show none = some r from h); done)
  rename_i x bit
  obtain ⟨p, hp, h3⟩ := Option.bind_eq_some_iff.1 h
  clear h
  split at h3
  case isFalse => cases h3
  rename_i hb
  cases h3
  obtain ⟨hd, _⟩ := hb
  refine ⟨_, (SeesL.cons (prgOf_sees hp) .same).args, by simp, ?_⟩
  have hf := few_v p
  have hB := bytesL_v p
  simp only [Prg.v] at hf hB
  cases c2 : rightP p
  · rw [c2] at hB
    simp only [Bool.false_eq_true, if_false] at hB
    cases c1 : fewB p
    · rw [c1] at hf
      simp only [go_sem, Nat.reduceEqDiff, Nat.reduceLT, Nat.reduceLeDiff, Nat.reduceAdd, Nat.reduceSub, Nat.reduceMul, Nat.reduceBEq, ↓reduceIte, reduceCtorEq, Int.reduceLT, Int.reduceToNat, UInt8.reduceToNat, Int.reduceLE, Int.reduceBEq, Int.reduceBNe, Int.reduceAdd, Int.reduceSub, Int.reduceMul, Int.reduceNeg, Prg.v, cImg14_at, spTrue_mv, spTrue_fn, spFew_mv, hf, spBytesL_mv, hB]
      repeat' (first | (refine AG_of ?_ ?_ <;> intro h <;> simp only [go_sem, Nat.reduceEqDiff, Nat.reduceLT, Nat.reduceLeDiff, Nat.reduceAdd, Nat.reduceSub, Nat.reduceMul, Nat.reduceBEq, ↓reduceIte, reduceCtorEq, Int.reduceLT, Int.reduceToNat, UInt8.reduceToNat, Int.reduceLE, Int.reduceBEq, Int.reduceBNe, Int.reduceAdd, Int.reduceSub, Int.reduceMul, Int.reduceNeg, Prg.v, cImg14_at, spTrue_mv, spTrue_fn, spFew_mv, hf, spBytesL_mv, hB, h]) | (refine AB_of ?_ ?_ <;> intro h <;> simp only [go_sem, Nat.reduceEqDiff, Nat.reduceLT, Nat.reduceLeDiff, Nat.reduceAdd, Nat.reduceSub, Nat.reduceMul, Nat.reduceBEq, ↓reduceIte, reduceCtorEq, Int.reduceLT, Int.reduceToNat, UInt8.reduceToNat, Int.reduceLE, Int.reduceBEq, Int.reduceBNe, Int.reduceAdd, Int.reduceSub, Int.reduceMul, Int.reduceNeg, Prg.v, cImg14_at, spTrue_mv, spTrue_fn, spFew_mv, hf, spBytesL_mv, hB, h]) | (refine A_draw_of [] [] (by kernel_rfl) ?_ <;> simp only [go_sem, Nat.reduceEqDiff, Nat.reduceLT, Nat.reduceLeDiff, Nat.reduceAdd, Nat.reduceSub, Nat.reduceMul, Nat.reduceBEq, ↓reduceIte, reduceCtorEq, Int.reduceLT, Int.reduceToNat, UInt8.reduceToNat, Int.reduceLE, Int.reduceBEq, Int.reduceBNe, Int.reduceAdd, Int.reduceSub, Int.reduceMul, Int.reduceNeg, Prg.v, cImg14_at, spTrue_mv, spTrue_fn, spFew_mv, hf, spBytesL_mv, hB]))
      all_goals (first | refine fin_ret ?_ | refine fin_normal ?_)
      all_goals simp only [resOf, Try.results7, Try.ntmps7, go_sem, Nat.reduceEqDiff, Nat.reduceLT, Nat.reduceLeDiff, Nat.reduceAdd, Nat.reduceSub, Nat.reduceMul, Nat.reduceBEq, ↓reduceIte, reduceCtorEq, Int.reduceLT, Int.reduceToNat, UInt8.reduceToNat, Int.reduceLE, Int.reduceBEq, Int.reduceBNe, Int.reduceAdd, Int.reduceSub, Int.reduceMul, Int.reduceNeg]
    rw [c1] at hf
    simp only [go_sem, Nat.reduceEqDiff, Nat.reduceLT, Nat.reduceLeDiff, Nat.reduceAdd, Nat.reduceSub, Nat.reduceMul, Nat.reduceBEq, ↓reduceIte, reduceCtorEq, Int.reduceLT, Int.reduceToNat, UInt8.reduceToNat, Int.reduceLE, Int.reduceBEq, Int.reduceBNe, Int.reduceAdd, Int.reduceSub, Int.reduceMul, Int.reduceNeg, Prg.v, cImg14_at, spTrue_mv, spTrue_fn, spFew_mv, hf, spBytesL_mv, hB]
    repeat' (first | (refine AG_of ?_ ?_ <;> intro h <;> simp only [go_sem, Nat.reduceEqDiff, Nat.reduceLT, Nat.reduceLeDiff, Nat.reduceAdd, Nat.reduceSub, Nat.reduceMul, Nat.reduceBEq, ↓reduceIte, reduceCtorEq, Int.reduceLT, Int.reduceToNat, UInt8.reduceToNat, Int.reduceLE, Int.reduceBEq, Int.reduceBNe, Int.reduceAdd, Int.reduceSub, Int.reduceMul, Int.reduceNeg, Prg.v, cImg14_at, spTrue_mv, spTrue_fn, spFew_mv, hf, spBytesL_mv, hB, h]) | (refine AB_of ?_ ?_ <;> intro h <;> simp only [go_sem, Nat.reduceEqDiff, Nat.reduceLT, Nat.reduceLeDiff, Nat.reduceAdd, Nat.reduceSub, Nat.reduceMul, Nat.reduceBEq, ↓reduceIte, reduceCtorEq, Int.reduceLT, Int.reduceToNat, UInt8.reduceToNat, Int.reduceLE, Int.reduceBEq, Int.reduceBNe, Int.reduceAdd, Int.reduceSub, Int.reduceMul, Int.reduceNeg, Prg.v, cImg14_at, spTrue_mv, spTrue_fn, spFew_mv, hf, spBytesL_mv, hB, h]) | (refine A_draw_of [] [] (by kernel_rfl) ?_ <;> simp only [go_sem, Nat.reduceEqDiff, Nat.reduceLT, Nat.reduceLeDiff, Nat.reduceAdd, Nat.reduceSub, Nat.reduceMul, Nat.reduceBEq, ↓reduceIte, reduceCtorEq, Int.reduceLT, Int.reduceToNat, UInt8.reduceToNat, Int.reduceLE, Int.reduceBEq, Int.reduceBNe, Int.reduceAdd, Int.reduceSub, Int.reduceMul, Int.reduceNeg, Prg.v, cImg14_at, spTrue_mv, spTrue_fn, spFew_mv, hf, spBytesL_mv, hB]))
    all_goals (first | refine fin_ret ?_ | refine fin_normal ?_)
    all_goals simp only [resOf, Try.results7, Try.ntmps7, go_sem, Nat.reduceEqDiff, Nat.reduceLT, Nat.reduceLeDiff, Nat.reduceAdd, Nat.reduceSub, Nat.reduceMul, Nat.reduceBEq, ↓reduceIte, reduceCtorEq, Int.reduceLT, Int.reduceToNat, UInt8.reduceToNat, Int.reduceLE, Int.reduceBEq, Int.reduceBNe, Int.reduceAdd, Int.reduceSub, Int.reduceMul, Int.reduceNeg]
  rw [c2, if_pos rfl] at hB
  have hil := imgB_byte hd
  have hL := imgB_len p
  have q0 := read_img c2 hd
  obtain ⟨l, hl⟩ : ∃ l, imgB p = l := ⟨_, rfl⟩
  rw [hl] at hB hil hL
  obtain ⟨L, hLe⟩ : ∃ L, l.length = L := ⟨_, rfl⟩
  have hrow : (l.map u8v).length = L := by simp [hLe]
  cases c1 : fewB p
  · rw [c1] at hf
    simp only [go_sem, Nat.reduceEqDiff, Nat.reduceLT, Nat.reduceLeDiff, Nat.reduceAdd, Nat.reduceSub, Nat.reduceMul, Nat.reduceBEq, ↓reduceIte, reduceCtorEq, Int.reduceLT, Int.reduceToNat, UInt8.reduceToNat, Int.reduceLE, Int.reduceBEq, Int.reduceBNe, Int.reduceAdd, Int.reduceSub, Int.reduceMul, Int.reduceNeg, Prg.v, cImg14_at, spTrue_mv, spTrue_fn, spFew_mv, hf, spBytesL_mv, hB]
    repeat' (first | (refine AG_of ?_ ?_ <;> intro h <;> simp only [go_sem, Nat.reduceEqDiff, Nat.reduceLT, Nat.reduceLeDiff, Nat.reduceAdd, Nat.reduceSub, Nat.reduceMul, Nat.reduceBEq, ↓reduceIte, reduceCtorEq, Int.reduceLT, Int.reduceToNat, UInt8.reduceToNat, Int.reduceLE, Int.reduceBEq, Int.reduceBNe, Int.reduceAdd, Int.reduceSub, Int.reduceMul, Int.reduceNeg, Prg.v, cImg14_at, spTrue_mv, spTrue_fn, spFew_mv, hf, spBytesL_mv, hB, h]) | (refine AB_of ?_ ?_ <;> intro h <;> simp only [go_sem, Nat.reduceEqDiff, Nat.reduceLT, Nat.reduceLeDiff, Nat.reduceAdd, Nat.reduceSub, Nat.reduceMul, Nat.reduceBEq, ↓reduceIte, reduceCtorEq, Int.reduceLT, Int.reduceToNat, UInt8.reduceToNat, Int.reduceLE, Int.reduceBEq, Int.reduceBNe, Int.reduceAdd, Int.reduceSub, Int.reduceMul, Int.reduceNeg, Prg.v, cImg14_at, spTrue_mv, spTrue_fn, spFew_mv, hf, spBytesL_mv, hB, h]) | (refine A_draw_of [] [] (by kernel_rfl) ?_ <;> simp only [go_sem, Nat.reduceEqDiff, Nat.reduceLT, Nat.reduceLeDiff, Nat.reduceAdd, Nat.reduceSub, Nat.reduceMul, Nat.reduceBEq, ↓reduceIte, reduceCtorEq, Int.reduceLT, Int.reduceToNat, UInt8.reduceToNat, Int.reduceLE, Int.reduceBEq, Int.reduceBNe, Int.reduceAdd, Int.reduceSub, Int.reduceMul, Int.reduceNeg, Prg.v, cImg14_at, spTrue_mv, spTrue_fn, spFew_mv, hf, spBytesL_mv, hB]))
    all_goals (first | refine fin_ret ?_ | refine fin_normal ?_)
    all_goals simp only [resOf, Try.results7, Try.ntmps7, go_sem, Nat.reduceEqDiff, Nat.reduceLT, Nat.reduceLeDiff, Nat.reduceAdd, Nat.reduceSub, Nat.reduceMul, Nat.reduceBEq, ↓reduceIte, reduceCtorEq, Int.reduceLT, Int.reduceToNat, UInt8.reduceToNat, Int.reduceLE, Int.reduceBEq, Int.reduceBNe, Int.reduceAdd, Int.reduceSub, Int.reduceMul, Int.reduceNeg]
  rw [c1] at hf
  have g4 : ((L : Int) == 0) = false := by simp; omega
  by_cases c3 : bit < 0
  · have g3 : decide (bit < 0) = true := by simp [c3]
    simp only [go_sem, Nat.reduceEqDiff, Nat.reduceLT, Nat.reduceLeDiff, Nat.reduceAdd, Nat.reduceSub, Nat.reduceMul, Nat.reduceBEq, ↓reduceIte, reduceCtorEq, Int.reduceLT, Int.reduceToNat, UInt8.reduceToNat, Int.reduceLE, Int.reduceBEq, Int.reduceBNe, Int.reduceAdd, Int.reduceSub, Int.reduceMul, Int.reduceNeg, Prg.v, cImg14_at, spTrue_mv, spTrue_fn, spFew_mv, hf, spBytesL_mv, hB, hrow, g4, g3]
    repeat' (first | (refine AG_of ?_ ?_ <;> intro h <;> simp only [go_sem, Nat.reduceEqDiff, Nat.reduceLT, Nat.reduceLeDiff, Nat.reduceAdd, Nat.reduceSub, Nat.reduceMul, Nat.reduceBEq, ↓reduceIte, reduceCtorEq, Int.reduceLT, Int.reduceToNat, UInt8.reduceToNat, Int.reduceLE, Int.reduceBEq, Int.reduceBNe, Int.reduceAdd, Int.reduceSub, Int.reduceMul, Int.reduceNeg, Prg.v, cImg14_at, spTrue_mv, spTrue_fn, spFew_mv, hf, spBytesL_mv, hB, hrow, g4, g3, h]) | (refine AB_of ?_ ?_ <;> intro h <;> simp only [go_sem, Nat.reduceEqDiff, Nat.reduceLT, Nat.reduceLeDiff, Nat.reduceAdd, Nat.reduceSub, Nat.reduceMul, Nat.reduceBEq, ↓reduceIte, reduceCtorEq, Int.reduceLT, Int.reduceToNat, UInt8.reduceToNat, Int.reduceLE, Int.reduceBEq, Int.reduceBNe, Int.reduceAdd, Int.reduceSub, Int.reduceMul, Int.reduceNeg, Prg.v, cImg14_at, spTrue_mv, spTrue_fn, spFew_mv, hf, spBytesL_mv, hB, hrow, g4, g3, h]) | (refine A_draw_of [] [] (by kernel_rfl) ?_ <;> simp only [go_sem, Nat.reduceEqDiff, Nat.reduceLT, Nat.reduceLeDiff, Nat.reduceAdd, Nat.reduceSub, Nat.reduceMul, Nat.reduceBEq, ↓reduceIte, reduceCtorEq, Int.reduceLT, Int.reduceToNat, UInt8.reduceToNat, Int.reduceLE, Int.reduceBEq, Int.reduceBNe, Int.reduceAdd, Int.reduceSub, Int.reduceMul, Int.reduceNeg, Prg.v, cImg14_at, spTrue_mv, spTrue_fn, spFew_mv, hf, spBytesL_mv, hB, hrow, g4, g3]))
    all_goals (first | refine fin_ret ?_ | refine fin_normal ?_)
    all_goals simp only [resOf, Try.results7, Try.ntmps7, go_sem, Nat.reduceEqDiff, Nat.reduceLT, Nat.reduceLeDiff, Nat.reduceAdd, Nat.reduceSub, Nat.reduceMul, Nat.reduceBEq, ↓reduceIte, reduceCtorEq, Int.reduceLT, Int.reduceToNat, UInt8.reduceToNat, Int.reduceLE, Int.reduceBEq, Int.reduceBNe, Int.reduceAdd, Int.reduceSub, Int.reduceMul, Int.reduceNeg]
  have g3 : decide (bit < 0) = false := by simp; omega
  have hfw := c1
  simp only [fewB, Bool.and_eq_true, decide_eq_true_eq] at hfw
  obtain ⟨_, q2, q3, q4, q5, _, _⟩ := rightP_parts c2
  obtain ⟨k, hk, hkl⟩ : ∃ k : Nat, bit.tmod (8 * (L : Int)) = k ∧ k < 8 * L := by
    have h0 : 0 ≤ bit.tmod (8 * (L : Int)) := Int.tmod_nonneg _ (by omega)
    have h1 : bit.tmod (8 * (L : Int)) < 8 * L := Int.tmod_lt_of_pos _ (by omega)
    exact ⟨(bit.tmod (8 * (L : Int))).toNat, by omega, by omega⟩
  obtain ⟨q, hq⟩ : ∃ q, k / 8 = q := ⟨_, rfl⟩
  obtain ⟨r, hr⟩ : ∃ r, k % 8 = r := ⟨_, rfl⟩
  have hr8 : r < 8 := by omega
  have hr9 : r ≤ 8 := by omega
  have hqL : q < L := by omega
  have d1 : Int.tdiv (k : Int) 8 = q := by rw [Int.tdiv_eq_ediv_of_nonneg (by omega)]; omega
  have d2 : Int.tmod (k : Int) 8 = r := by rw [Int.tmod_eq_emod_of_nonneg (by omega)]; omega
  have w1 : IntKind.i64.wrap (8 * (L : Int)) = 8 * L := w_i64 (by omega) (by omega)
  have w2 : IntKind.u64.wrap (r : Int) = r := by rw [IntKind.wrap_u64]; omega
  have w4 : IntKind.i64.wrap (q : Int) = q := w_i64 (by omega) (by omega)
  have w5 : IntKind.i64.wrap (r : Int) = r := w_i64 (by omega) (by omega)
  have e80 : ¬ ((8 : Int) = 0) := by omega
  have g5 : ¬ (8 * (L : Int) = 0) := by omega
  have z1 := Int.natCast_nonneg q
  have z2 : ¬ ((r : Int) < 0) := by omega
  have hqI : (q : Int) < (L : Int) := by omega
  obtain ⟨b, hqb⟩ : ∃ b, l[q]? = some b := ⟨_, List.getElem?_eq_getElem (by omega)⟩
  have hbb : byte b = true := List.all_eq_true.1 hil b (List.mem_of_getElem? hqb)
  have hget : (l.map u8v)[q]? = some (.s (.int .u8 b)) := by rw [List.getElem?_map, hqb]; rfl
  have w3 : IntKind.u8.wrap (2 ^ r) = 2 ^ r := by
    have : r = 0 ∨ r = 1 ∨ r = 2 ∨ r = 3 ∨ r = 4 ∨ r = 5 ∨ r = 6 ∨ r = 7 := by omega
    rcases this with rfl | rfl | rfl | rfl | rfl | rfl | rfl | rfl <;> decide
  obtain ⟨hy1, hy2⟩ := xor_bit hbb hr8
  obtain ⟨y, hy⟩ : ∃ y, bits .xor .u8 b (2 ^ r) = y := ⟨_, rfl⟩
  rw [hy] at hy1 hy2
  have hset : (l.map u8v).set q (.s (.int .u8 y)) = (l.set q y).map u8v := by
    rw [List.map_set]; rfl
  have hne : l.set q y ≠ l := fun e => by
    have h1 : (l.set q y)[q]? = some y := by rw [List.getElem?_set_self (by omega)]
    rw [e, hqb] at h1
    cases h1
    exact hy2 rfl
  have hby : (l.set q y).all byte = true := by
    rw [List.all_eq_true] at *
    intro u hu
    rcases List.mem_or_eq_of_mem_set hu with h | h
    · exact hil u h
    · rw [h]; exact hy1
  have R := read_v hby (by rw [List.length_set]; omega)
  have f1 : L * 1 ≤ 140737488355328 := by omega
  have sc := scal_u8 l
  rcases readX_cases (l.set q y) with ⟨e, he, hnz⟩ | ⟨p2, he⟩
  · rw [he] at R
    have hs : spSame.fn [optE none, optE none] = some (.s (.bool true)) := by
      rw [same_optopt (o := none) (q := none) (by show (0 : Nat) ≤ _; omega), sameP_self]
    have g6 : (e != 0) = true := by simp [hnz]
    simp only [optV] at R
    simp only [optE] at hs
    simp only [go_sem, Nat.reduceEqDiff, Nat.reduceLT, Nat.reduceLeDiff, Nat.reduceAdd, Nat.reduceSub, Nat.reduceMul, Nat.reduceBEq, ↓reduceIte, reduceCtorEq, Int.reduceLT, Int.reduceToNat, UInt8.reduceToNat, Int.reduceLE, Int.reduceBEq, Int.reduceBNe, Int.reduceAdd, Int.reduceSub, Int.reduceMul, Int.reduceNeg, Prg.v, cImg14_at, spTrue_mv, spTrue_fn, spFew_mv, hf, spBytesL_mv, hB, hrow, hLe, g4, g3, hk, w1, w2, w3, w4, w5, hr9, e80, g5, d1, d2, z1, z2, hqI, hget, hy, hset, spRead_mv, R, f1, sc, spNum_mv, spNum_fn, g6, spSame_mv, hs, Int.toNat_natCast, Int.one_mul]
    repeat' (first | (refine AG_of ?_ ?_ <;> intro h <;> simp only [go_sem, Nat.reduceEqDiff, Nat.reduceLT, Nat.reduceLeDiff, Nat.reduceAdd, Nat.reduceSub, Nat.reduceMul, Nat.reduceBEq, ↓reduceIte, reduceCtorEq, Int.reduceLT, Int.reduceToNat, UInt8.reduceToNat, Int.reduceLE, Int.reduceBEq, Int.reduceBNe, Int.reduceAdd, Int.reduceSub, Int.reduceMul, Int.reduceNeg, Prg.v, cImg14_at, spTrue_mv, spTrue_fn, spFew_mv, hf, spBytesL_mv, hB, hrow, hLe, g4, g3, hk, w1, w2, w3, w4, w5, hr9, e80, g5, d1, d2, z1, z2, hqI, hget, hy, hset, spRead_mv, R, f1, sc, spNum_mv, spNum_fn, g6, spSame_mv, hs, Int.toNat_natCast, Int.one_mul, h]) | (refine AB_of ?_ ?_ <;> intro h <;> simp only [go_sem, Nat.reduceEqDiff, Nat.reduceLT, Nat.reduceLeDiff, Nat.reduceAdd, Nat.reduceSub, Nat.reduceMul, Nat.reduceBEq, ↓reduceIte, reduceCtorEq, Int.reduceLT, Int.reduceToNat, UInt8.reduceToNat, Int.reduceLE, Int.reduceBEq, Int.reduceBNe, Int.reduceAdd, Int.reduceSub, Int.reduceMul, Int.reduceNeg, Prg.v, cImg14_at, spTrue_mv, spTrue_fn, spFew_mv, hf, spBytesL_mv, hB, hrow, hLe, g4, g3, hk, w1, w2, w3, w4, w5, hr9, e80, g5, d1, d2, z1, z2, hqI, hget, hy, hset, spRead_mv, R, f1, sc, spNum_mv, spNum_fn, g6, spSame_mv, hs, Int.toNat_natCast, Int.one_mul, h]) | (refine A_draw_of [] [] (by kernel_rfl) ?_ <;> simp only [go_sem, Nat.reduceEqDiff, Nat.reduceLT, Nat.reduceLeDiff, Nat.reduceAdd, Nat.reduceSub, Nat.reduceMul, Nat.reduceBEq, ↓reduceIte, reduceCtorEq, Int.reduceLT, Int.reduceToNat, UInt8.reduceToNat, Int.reduceLE, Int.reduceBEq, Int.reduceBNe, Int.reduceAdd, Int.reduceSub, Int.reduceMul, Int.reduceNeg, Prg.v, cImg14_at, spTrue_mv, spTrue_fn, spFew_mv, hf, spBytesL_mv, hB, hrow, hLe, g4, g3, hk, w1, w2, w3, w4, w5, hr9, e80, g5, d1, d2, z1, z2, hqI, hget, hy, hset, spRead_mv, R, f1, sc, spNum_mv, spNum_fn, g6, spSame_mv, hs, Int.toNat_natCast, Int.one_mul]))
    all_goals (first | refine fin_ret ?_ | refine fin_normal ?_)
    all_goals simp only [resOf, Try.results7, Try.ntmps7, go_sem, Nat.reduceEqDiff, Nat.reduceLT, Nat.reduceLeDiff, Nat.reduceAdd, Nat.reduceSub, Nat.reduceMul, Nat.reduceBEq, ↓reduceIte, reduceCtorEq, Int.reduceLT, Int.reduceToNat, UInt8.reduceToNat, Int.reduceLE, Int.reduceBEq, Int.reduceBNe, Int.reduceAdd, Int.reduceSub, Int.reduceMul, Int.reduceNeg]
  · obtain ⟨i1, i2, i3⟩ := img_read hby he
    rw [he] at R
    have hpp : sameP p2 p = false := by
      rw [Bool.eq_false_iff]
      intro h
      have : p2 = p := by
        simp only [sameP, Bool.and_eq_true] at h
        obtain ⟨⟨h1, h2⟩, h3⟩ := h
        rw [str_beq i3 hd] at h3
        cases p; cases p2
        simp_all
      rw [this, hl] at i1
      exact hne i1.symm
    have hcl := read_code (l.set q y)
    rw [he] at hcl
    have hs := same_opt (o := some p2) (p := p) hcl
    rw [show sameP (optP (some p2)) p = false from hpp] at hs
    have hr2 := rightP_v p2
    rw [i2] at hr2
    simp only [optV] at R
    simp only [optE, Prg.v] at hs hr2
    simp only [go_sem, Nat.reduceEqDiff, Nat.reduceLT, Nat.reduceLeDiff, Nat.reduceAdd, Nat.reduceSub, Nat.reduceMul, Nat.reduceBEq, ↓reduceIte, reduceCtorEq, Int.reduceLT, Int.reduceToNat, UInt8.reduceToNat, Int.reduceLE, Int.reduceBEq, Int.reduceBNe, Int.reduceAdd, Int.reduceSub, Int.reduceMul, Int.reduceNeg, Prg.v, cImg14_at, spTrue_mv, spTrue_fn, spFew_mv, hf, spBytesL_mv, hB, hrow, hLe, g4, g3, hk, w1, w2, w3, w4, w5, hr9, e80, g5, d1, d2, z1, z2, hqI, hget, hy, hset, spRead_mv, R, f1, sc, spNum_mv, spNum_fn, spSame_mv, hs, spRightP_mv, hr2, Int.toNat_natCast, Int.one_mul]
    repeat' (first | (refine AG_of ?_ ?_ <;> intro h <;> simp only [go_sem, Nat.reduceEqDiff, Nat.reduceLT, Nat.reduceLeDiff, Nat.reduceAdd, Nat.reduceSub, Nat.reduceMul, Nat.reduceBEq, ↓reduceIte, reduceCtorEq, Int.reduceLT, Int.reduceToNat, UInt8.reduceToNat, Int.reduceLE, Int.reduceBEq, Int.reduceBNe, Int.reduceAdd, Int.reduceSub, Int.reduceMul, Int.reduceNeg, Prg.v, cImg14_at, spTrue_mv, spTrue_fn, spFew_mv, hf, spBytesL_mv, hB, hrow, hLe, g4, g3, hk, w1, w2, w3, w4, w5, hr9, e80, g5, d1, d2, z1, z2, hqI, hget, hy, hset, spRead_mv, R, f1, sc, spNum_mv, spNum_fn, spSame_mv, hs, spRightP_mv, hr2, Int.toNat_natCast, Int.one_mul, h]) | (refine AB_of ?_ ?_ <;> intro h <;> simp only [go_sem, Nat.reduceEqDiff, Nat.reduceLT, Nat.reduceLeDiff, Nat.reduceAdd, Nat.reduceSub, Nat.reduceMul, Nat.reduceBEq, ↓reduceIte, reduceCtorEq, Int.reduceLT, Int.reduceToNat, UInt8.reduceToNat, Int.reduceLE, Int.reduceBEq, Int.reduceBNe, Int.reduceAdd, Int.reduceSub, Int.reduceMul, Int.reduceNeg, Prg.v, cImg14_at, spTrue_mv, spTrue_fn, spFew_mv, hf, spBytesL_mv, hB, hrow, hLe, g4, g3, hk, w1, w2, w3, w4, w5, hr9, e80, g5, d1, d2, z1, z2, hqI, hget, hy, hset, spRead_mv, R, f1, sc, spNum_mv, spNum_fn, spSame_mv, hs, spRightP_mv, hr2, Int.toNat_natCast, Int.one_mul, h]) | (refine A_draw_of [] [] (by kernel_rfl) ?_ <;> simp only [go_sem, Nat.reduceEqDiff, Nat.reduceLT, Nat.reduceLeDiff, Nat.reduceAdd, Nat.reduceSub, Nat.reduceMul, Nat.reduceBEq, ↓reduceIte, reduceCtorEq, Int.reduceLT, Int.reduceToNat, UInt8.reduceToNat, Int.reduceLE, Int.reduceBEq, Int.reduceBNe, Int.reduceAdd, Int.reduceSub, Int.reduceMul, Int.reduceNeg, Prg.v, cImg14_at, spTrue_mv, spTrue_fn, spFew_mv, hf, spBytesL_mv, hB, hrow, hLe, g4, g3, hk, w1, w2, w3, w4, w5, hr9, e80, g5, d1, d2, z1, z2, hqI, hget, hy, hset, spRead_mv, R, f1, sc, spNum_mv, spNum_fn, spSame_mv, hs, spRightP_mv, hr2, Int.toNat_natCast, Int.one_mul]))
    all_goals (first | refine fin_ret ?_ | refine fin_normal ?_)
    all_goals simp only [resOf, Try.results7, Try.ntmps7, go_sem, Nat.reduceEqDiff, Nat.reduceLT, Nat.reduceLeDiff, Nat.reduceAdd, Nat.reduceSub, Nat.reduceMul, Nat.reduceBEq, ↓reduceIte, reduceCtorEq, Int.reduceLT, Int.reduceToNat, UInt8.reduceToNat, Int.reduceLE, Int.reduceBEq, Int.reduceBNe, Int.reduceAdd, Int.reduceSub, Int.reduceMul, Int.reduceNeg]

theorem turn_ok {x : V} {bit : Int} (h : ∃ p, prgOf x = some p ∧ p.data.all byte = true ∧ (∀ i ∈ p.code, WfI i) ∧ p.code.length ≤ maxLen ∧ p.data.length ≤ maxLen) (hc : (Lit.int .i64 bit).wf = true) : spTurn.fn [x, .s (.int .i64 bit)] = some (.s (.bool true)) := by
  obtain ⟨p, h1, h2, _⟩ := h
  have h3 := wf_i64 hc
  simp only [spTurn, h1, Option.bind_some, if_pos (And.intro h2 (show bit ≤ 9223372036854775807 by omega))]
end Go.Proofs.Ytecckfhmgnlmnaa
