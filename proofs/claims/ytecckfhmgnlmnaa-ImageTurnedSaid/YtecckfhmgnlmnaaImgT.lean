/-
The reference's ReadImage by the plain reckoning. No condition.
-/
import Derived.Test.YtecckfhmgnlmnaaImgS
namespace Go.Proofs.Ytecckfhmgnlmnaa
set_option linter.unusedSimpArgs false

def cImg12 : Orc := upd (upd (upd (upd cImg11 25 (some spGet)) 26 (some spDecode)) 17 (some spRTargets)) 11 (some spRead)
theorem cImg12_ok : ∀ g sp, cImg12 g = some sp → Impl Try.prog g sp := orc_upd (orc_upd (orc_upd (orc_upd cImg11_ok rget_impl) rdecode_impl) rtargets_impl) read_impl
theorem cImg12_at : cImg12 25 = some spGet ∧ cImg12 26 = some spDecode ∧ cImg12 17 = some spRTargets := ⟨rfl, rfl, rfl⟩

def rreadI (l D : List Int) (X Y : Int) (s : S) : Prop :=
  s.env 0 = .lst false 1 (l.map u8v) ∧ s.env 2 = .ptr 2 1 0 ∧ s.st 2 = ⟨1, .box [.s (.slice none 0 0), .s (.int .i64 0), .s (.slice none 0 0)]⟩ ∧ s.env 13 = .ptr 13 1 0 ∧ s.env 10 = .s (.int .i64 X) ∧
  s.st 82 = ⟨1, .row 1 5 (D.map u8v)⟩ ∧
  ∃ k : Nat, s.env 14 = .s (.int .i64 k) ∧ (k : Int) ≤ X ∧ (List.range k).all (insOkAt l) = true ∧
    ((k = 0 ∧ s.st 13 = ⟨1, .box [.s (.slice none 0 0), .s (.int .i64 Y), .sw 82 1 D.length]⟩) ∨
    ∃ v, s.st 13 = ⟨1, .box [.sw 109 v k, .s (.int .i64 Y), .sw 82 1 D.length]⟩ ∧ s.st 109 = ⟨v, .row 5 41 (((List.range k).map (insAt l)).map Ins.v)⟩)

set_option maxHeartbeats 4000000 in
set_option maxRecDepth 8000 in
theorem rread_impl : Impl Try.prog 12 spRead := by
  refine impl_walk2 mixed cImg12_ok eqT_ok Try.func12 rfl Try.ntmps12 (by kernel_rfl) ?_
  intro xs r h
  unfold spRead at h
  simp only at h
  (try split at h) <;> try (cases (show none = some r from h); done)
  rename_i x
  obtain ⟨l1, hl1, h3⟩ := Option.bind_eq_some_iff.1 h
  obtain ⟨l, h2, h4⟩ := Option.bind_eq_some_iff.1 h3
  have e := mapM_eq (fun _ _ => u8Of_eq) h2
  clear h h3
  subst e
  split at h4
  case isFalse => cases h4
  rename_i hc
  cases h4
  obtain ⟨hb, hlen⟩ := hc
  refine ⟨_, lst_args hl1 _, by simp, ?_⟩
  by_cases c1 : l.length < 16
  · have g1 : decide ((l.length : Int) < 16) = true := by simp; omega
    have hr : readX l = (none, 2) := by unfold readX; rw [if_pos c1]
    rw [hr]
    simp only [go_sem, Nat.reduceEqDiff, Nat.reduceLT, Nat.reduceLeDiff, Nat.reduceAdd, Nat.reduceSub, Nat.reduceMul, Nat.reduceBEq, ↓reduceIte, reduceCtorEq, Int.reduceLT, Int.reduceToNat, UInt8.reduceToNat, Int.reduceLE, Int.reduceBEq, Int.reduceBNe, Int.reduceAdd, Int.reduceSub, Int.reduceMul, Int.reduceNeg, g1, List.length_map]
    repeat' (first | (refine AG_of ?_ ?_ <;> intro h <;> simp only [go_sem, Nat.reduceEqDiff, Nat.reduceLT, Nat.reduceLeDiff, Nat.reduceAdd, Nat.reduceSub, Nat.reduceMul, Nat.reduceBEq, ↓reduceIte, reduceCtorEq, Int.reduceLT, Int.reduceToNat, UInt8.reduceToNat, Int.reduceLE, Int.reduceBEq, Int.reduceBNe, Int.reduceAdd, Int.reduceSub, Int.reduceMul, Int.reduceNeg, g1, List.length_map, h]) | (refine AB_of ?_ ?_ <;> intro h <;> simp only [go_sem, Nat.reduceEqDiff, Nat.reduceLT, Nat.reduceLeDiff, Nat.reduceAdd, Nat.reduceSub, Nat.reduceMul, Nat.reduceBEq, ↓reduceIte, reduceCtorEq, Int.reduceLT, Int.reduceToNat, UInt8.reduceToNat, Int.reduceLE, Int.reduceBEq, Int.reduceBNe, Int.reduceAdd, Int.reduceSub, Int.reduceMul, Int.reduceNeg, g1, List.length_map, h]) | (refine A_draw_of [] [] (by kernel_rfl) ?_ <;> simp only [go_sem, Nat.reduceEqDiff, Nat.reduceLT, Nat.reduceLeDiff, Nat.reduceAdd, Nat.reduceSub, Nat.reduceMul, Nat.reduceBEq, ↓reduceIte, reduceCtorEq, Int.reduceLT, Int.reduceToNat, UInt8.reduceToNat, Int.reduceLE, Int.reduceBEq, Int.reduceBNe, Int.reduceAdd, Int.reduceSub, Int.reduceMul, Int.reduceNeg, g1, List.length_map]))
    all_goals (first | refine fin_ret ?_ | refine fin_normal ?_)
    all_goals simp only [resOf, Try.results12, Try.ntmps12, go_sem, Nat.reduceEqDiff, Nat.reduceLT, Nat.reduceLeDiff, Nat.reduceAdd, Nat.reduceSub, Nat.reduceMul, Nat.reduceBEq, ↓reduceIte, reduceCtorEq, Int.reduceLT, Int.reduceToNat, UInt8.reduceToNat, Int.reduceLE, Int.reduceBEq, Int.reduceBNe, Int.reduceAdd, Int.reduceSub, Int.reduceMul, Int.reduceNeg]
    all_goals rfl
  have g1 : decide ((l.length : Int) < 16) = false := by simp; omega
  have t4 : List.take 4 (l.map u8v) = (l.take 4).map u8v := List.map_take.symm
  have a4 := u8_all (l.take 4)
  have n4 := u8_nums (l.take 4)
  have b4 : (4 : Int) ≤ l.length := by omega
  cases c2 : magicB l
  · have hr : readX l = (none, 2) := by unfold readX; rw [if_neg c1, if_pos c2]
    have m4 : ((strOfNums (l.take 4)).toList == (ByteArray.mk #[83, 82, 73, 1]).toList) = false := c2
    rw [hr]
    simp only [go_sem, Nat.reduceEqDiff, Nat.reduceLT, Nat.reduceLeDiff, Nat.reduceAdd, Nat.reduceSub, Nat.reduceMul, Nat.reduceBEq, ↓reduceIte, reduceCtorEq, Int.reduceLT, Int.reduceToNat, UInt8.reduceToNat, Int.reduceLE, Int.reduceBEq, Int.reduceBNe, Int.reduceAdd, Int.reduceSub, Int.reduceMul, Int.reduceNeg, g1, t4, a4, n4, b4, m4, List.length_map]
    repeat' (first | (refine AG_of ?_ ?_ <;> intro h <;> simp only [go_sem, Nat.reduceEqDiff, Nat.reduceLT, Nat.reduceLeDiff, Nat.reduceAdd, Nat.reduceSub, Nat.reduceMul, Nat.reduceBEq, ↓reduceIte, reduceCtorEq, Int.reduceLT, Int.reduceToNat, UInt8.reduceToNat, Int.reduceLE, Int.reduceBEq, Int.reduceBNe, Int.reduceAdd, Int.reduceSub, Int.reduceMul, Int.reduceNeg, g1, t4, a4, n4, b4, m4, List.length_map, h]) | (refine AB_of ?_ ?_ <;> intro h <;> simp only [go_sem, Nat.reduceEqDiff, Nat.reduceLT, Nat.reduceLeDiff, Nat.reduceAdd, Nat.reduceSub, Nat.reduceMul, Nat.reduceBEq, ↓reduceIte, reduceCtorEq, Int.reduceLT, Int.reduceToNat, UInt8.reduceToNat, Int.reduceLE, Int.reduceBEq, Int.reduceBNe, Int.reduceAdd, Int.reduceSub, Int.reduceMul, Int.reduceNeg, g1, t4, a4, n4, b4, m4, List.length_map, h]) | (refine A_draw_of [] [] (by kernel_rfl) ?_ <;> simp only [go_sem, Nat.reduceEqDiff, Nat.reduceLT, Nat.reduceLeDiff, Nat.reduceAdd, Nat.reduceSub, Nat.reduceMul, Nat.reduceBEq, ↓reduceIte, reduceCtorEq, Int.reduceLT, Int.reduceToNat, UInt8.reduceToNat, Int.reduceLE, Int.reduceBEq, Int.reduceBNe, Int.reduceAdd, Int.reduceSub, Int.reduceMul, Int.reduceNeg, g1, t4, a4, n4, b4, m4, List.length_map]))
    all_goals (first | refine fin_ret ?_ | refine fin_normal ?_)
    all_goals simp only [resOf, Try.results12, Try.ntmps12, go_sem, Nat.reduceEqDiff, Nat.reduceLT, Nat.reduceLeDiff, Nat.reduceAdd, Nat.reduceSub, Nat.reduceMul, Nat.reduceBEq, ↓reduceIte, reduceCtorEq, Int.reduceLT, Int.reduceToNat, UInt8.reduceToNat, Int.reduceLE, Int.reduceBEq, Int.reduceBNe, Int.reduceAdd, Int.reduceSub, Int.reduceMul, Int.reduceNeg]
    all_goals rfl
  have m4 : ((strOfNums (l.take 4)).toList == (ByteArray.mk #[83, 82, 73, 1]).toList) = true := c2
  obtain ⟨x0, x1⟩ := wordAt_bd hb 4
  obtain ⟨y0, y1⟩ := wordAt_bd hb 8
  obtain ⟨z0, z1⟩ := wordAt_bd hb 12
  have G1 := spGet_fn hb hlen (k := 4) (by omega)
  have G2 := spGet_fn hb hlen (k := 8) (by omega)
  have G3 := spGet_fn hb hlen (k := 12) (by omega)
  simp only [Int.cast_ofNat_Int] at G1 G2 G3
  have W1 : IntKind.i64.wrap (wordAt l 4) = wordAt l 4 := w_i64 (by omega) (by omega)
  have W2 : IntKind.i64.wrap (wordAt l 8) = wordAt l 8 := w_i64 (by omega) (by omega)
  have W3 : IntKind.i64.wrap (wordAt l 12) = wordAt l 12 := w_i64 (by omega) (by omega)
  have V1 : IntKind.i64.wrap (4 * wordAt l 4) = 4 * wordAt l 4 := w_i64 (by omega) (by omega)
  have V2 : IntKind.i64.wrap (16 + 4 * wordAt l 4) = 16 + 4 * wordAt l 4 := w_i64 (by omega) (by omega)
  have V3 : IntKind.i64.wrap (16 + 4 * wordAt l 4 + wordAt l 12) = 16 + 4 * wordAt l 4 + wordAt l 12 := w_i64 (by omega) (by omega)
  by_cases s1 : 1 ≤ wordAt l 4
  case neg =>
    have hr : readX l = (none, 2) := by unfold readX; rw [if_neg c1, if_neg (by simp [c2]), if_pos (by simp [sizesB, s1])]
    have g2 : decide (wordAt l 4 < 1) = true := by simp; omega
    rw [hr]
    simp only [go_sem, Nat.reduceEqDiff, Nat.reduceLT, Nat.reduceLeDiff, Nat.reduceAdd, Nat.reduceSub, Nat.reduceMul, Nat.reduceBEq, ↓reduceIte, reduceCtorEq, Int.reduceLT, Int.reduceToNat, UInt8.reduceToNat, Int.reduceLE, Int.reduceBEq, Int.reduceBNe, Int.reduceAdd, Int.reduceSub, Int.reduceMul, Int.reduceNeg, g1, t4, a4, n4, b4, m4, cImg12_at, spGet_mv, G1, G2, G3, W1, W2, W3, g2, List.length_map]
    repeat' (first | (refine AG_of ?_ ?_ <;> intro h <;> simp only [go_sem, Nat.reduceEqDiff, Nat.reduceLT, Nat.reduceLeDiff, Nat.reduceAdd, Nat.reduceSub, Nat.reduceMul, Nat.reduceBEq, ↓reduceIte, reduceCtorEq, Int.reduceLT, Int.reduceToNat, UInt8.reduceToNat, Int.reduceLE, Int.reduceBEq, Int.reduceBNe, Int.reduceAdd, Int.reduceSub, Int.reduceMul, Int.reduceNeg, g1, t4, a4, n4, b4, m4, cImg12_at, spGet_mv, G1, G2, G3, W1, W2, W3, g2, List.length_map, h]) | (refine AB_of ?_ ?_ <;> intro h <;> simp only [go_sem, Nat.reduceEqDiff, Nat.reduceLT, Nat.reduceLeDiff, Nat.reduceAdd, Nat.reduceSub, Nat.reduceMul, Nat.reduceBEq, ↓reduceIte, reduceCtorEq, Int.reduceLT, Int.reduceToNat, UInt8.reduceToNat, Int.reduceLE, Int.reduceBEq, Int.reduceBNe, Int.reduceAdd, Int.reduceSub, Int.reduceMul, Int.reduceNeg, g1, t4, a4, n4, b4, m4, cImg12_at, spGet_mv, G1, G2, G3, W1, W2, W3, g2, List.length_map, h]) | (refine A_draw_of [] [] (by kernel_rfl) ?_ <;> simp only [go_sem, Nat.reduceEqDiff, Nat.reduceLT, Nat.reduceLeDiff, Nat.reduceAdd, Nat.reduceSub, Nat.reduceMul, Nat.reduceBEq, ↓reduceIte, reduceCtorEq, Int.reduceLT, Int.reduceToNat, UInt8.reduceToNat, Int.reduceLE, Int.reduceBEq, Int.reduceBNe, Int.reduceAdd, Int.reduceSub, Int.reduceMul, Int.reduceNeg, g1, t4, a4, n4, b4, m4, cImg12_at, spGet_mv, G1, G2, G3, W1, W2, W3, g2, List.length_map]))
    all_goals (first | refine fin_ret ?_ | refine fin_normal ?_)
    all_goals simp only [resOf, Try.results12, Try.ntmps12, go_sem, Nat.reduceEqDiff, Nat.reduceLT, Nat.reduceLeDiff, Nat.reduceAdd, Nat.reduceSub, Nat.reduceMul, Nat.reduceBEq, ↓reduceIte, reduceCtorEq, Int.reduceLT, Int.reduceToNat, UInt8.reduceToNat, Int.reduceLE, Int.reduceBEq, Int.reduceBNe, Int.reduceAdd, Int.reduceSub, Int.reduceMul, Int.reduceNeg]
    all_goals rfl
  have g2 : decide (wordAt l 4 < 1) = false := by simp; omega
  by_cases s2 : wordAt l 4 ≤ 2000
  case neg =>
    have hr : readX l = (none, 2) := by unfold readX; rw [if_neg c1, if_neg (by simp [c2]), if_pos (by simp [sizesB, s2])]
    have g3 : decide (2000 < wordAt l 4) = true := by simp; omega
    rw [hr]
    simp only [go_sem, Nat.reduceEqDiff, Nat.reduceLT, Nat.reduceLeDiff, Nat.reduceAdd, Nat.reduceSub, Nat.reduceMul, Nat.reduceBEq, ↓reduceIte, reduceCtorEq, Int.reduceLT, Int.reduceToNat, UInt8.reduceToNat, Int.reduceLE, Int.reduceBEq, Int.reduceBNe, Int.reduceAdd, Int.reduceSub, Int.reduceMul, Int.reduceNeg, g1, t4, a4, n4, b4, m4, cImg12_at, spGet_mv, G1, G2, G3, W1, W2, W3, g2, g3, List.length_map]
    repeat' (first | (refine AG_of ?_ ?_ <;> intro h <;> simp only [go_sem, Nat.reduceEqDiff, Nat.reduceLT, Nat.reduceLeDiff, Nat.reduceAdd, Nat.reduceSub, Nat.reduceMul, Nat.reduceBEq, ↓reduceIte, reduceCtorEq, Int.reduceLT, Int.reduceToNat, UInt8.reduceToNat, Int.reduceLE, Int.reduceBEq, Int.reduceBNe, Int.reduceAdd, Int.reduceSub, Int.reduceMul, Int.reduceNeg, g1, t4, a4, n4, b4, m4, cImg12_at, spGet_mv, G1, G2, G3, W1, W2, W3, g2, g3, List.length_map, h]) | (refine AB_of ?_ ?_ <;> intro h <;> simp only [go_sem, Nat.reduceEqDiff, Nat.reduceLT, Nat.reduceLeDiff, Nat.reduceAdd, Nat.reduceSub, Nat.reduceMul, Nat.reduceBEq, ↓reduceIte, reduceCtorEq, Int.reduceLT, Int.reduceToNat, UInt8.reduceToNat, Int.reduceLE, Int.reduceBEq, Int.reduceBNe, Int.reduceAdd, Int.reduceSub, Int.reduceMul, Int.reduceNeg, g1, t4, a4, n4, b4, m4, cImg12_at, spGet_mv, G1, G2, G3, W1, W2, W3, g2, g3, List.length_map, h]) | (refine A_draw_of [] [] (by kernel_rfl) ?_ <;> simp only [go_sem, Nat.reduceEqDiff, Nat.reduceLT, Nat.reduceLeDiff, Nat.reduceAdd, Nat.reduceSub, Nat.reduceMul, Nat.reduceBEq, ↓reduceIte, reduceCtorEq, Int.reduceLT, Int.reduceToNat, UInt8.reduceToNat, Int.reduceLE, Int.reduceBEq, Int.reduceBNe, Int.reduceAdd, Int.reduceSub, Int.reduceMul, Int.reduceNeg, g1, t4, a4, n4, b4, m4, cImg12_at, spGet_mv, G1, G2, G3, W1, W2, W3, g2, g3, List.length_map]))
    all_goals (first | refine fin_ret ?_ | refine fin_normal ?_)
    all_goals simp only [resOf, Try.results12, Try.ntmps12, go_sem, Nat.reduceEqDiff, Nat.reduceLT, Nat.reduceLeDiff, Nat.reduceAdd, Nat.reduceSub, Nat.reduceMul, Nat.reduceBEq, ↓reduceIte, reduceCtorEq, Int.reduceLT, Int.reduceToNat, UInt8.reduceToNat, Int.reduceLE, Int.reduceBEq, Int.reduceBNe, Int.reduceAdd, Int.reduceSub, Int.reduceMul, Int.reduceNeg]
    all_goals rfl
  have g3 : decide (2000 < wordAt l 4) = false := by simp; omega
  by_cases s4 : wordAt l 8 ≤ 65536
  case neg =>
    have hr : readX l = (none, 2) := by unfold readX; rw [if_neg c1, if_neg (by simp [c2]), if_pos (by simp [sizesB, s4])]
    have g4 : decide (65536 < wordAt l 8) = true := by simp; omega
    rw [hr]
    simp only [go_sem, Nat.reduceEqDiff, Nat.reduceLT, Nat.reduceLeDiff, Nat.reduceAdd, Nat.reduceSub, Nat.reduceMul, Nat.reduceBEq, ↓reduceIte, reduceCtorEq, Int.reduceLT, Int.reduceToNat, UInt8.reduceToNat, Int.reduceLE, Int.reduceBEq, Int.reduceBNe, Int.reduceAdd, Int.reduceSub, Int.reduceMul, Int.reduceNeg, g1, t4, a4, n4, b4, m4, cImg12_at, spGet_mv, G1, G2, G3, W1, W2, W3, g2, g3, g4, List.length_map]
    repeat' (first | (refine AG_of ?_ ?_ <;> intro h <;> simp only [go_sem, Nat.reduceEqDiff, Nat.reduceLT, Nat.reduceLeDiff, Nat.reduceAdd, Nat.reduceSub, Nat.reduceMul, Nat.reduceBEq, ↓reduceIte, reduceCtorEq, Int.reduceLT, Int.reduceToNat, UInt8.reduceToNat, Int.reduceLE, Int.reduceBEq, Int.reduceBNe, Int.reduceAdd, Int.reduceSub, Int.reduceMul, Int.reduceNeg, g1, t4, a4, n4, b4, m4, cImg12_at, spGet_mv, G1, G2, G3, W1, W2, W3, g2, g3, g4, List.length_map, h]) | (refine AB_of ?_ ?_ <;> intro h <;> simp only [go_sem, Nat.reduceEqDiff, Nat.reduceLT, Nat.reduceLeDiff, Nat.reduceAdd, Nat.reduceSub, Nat.reduceMul, Nat.reduceBEq, ↓reduceIte, reduceCtorEq, Int.reduceLT, Int.reduceToNat, UInt8.reduceToNat, Int.reduceLE, Int.reduceBEq, Int.reduceBNe, Int.reduceAdd, Int.reduceSub, Int.reduceMul, Int.reduceNeg, g1, t4, a4, n4, b4, m4, cImg12_at, spGet_mv, G1, G2, G3, W1, W2, W3, g2, g3, g4, List.length_map, h]) | (refine A_draw_of [] [] (by kernel_rfl) ?_ <;> simp only [go_sem, Nat.reduceEqDiff, Nat.reduceLT, Nat.reduceLeDiff, Nat.reduceAdd, Nat.reduceSub, Nat.reduceMul, Nat.reduceBEq, ↓reduceIte, reduceCtorEq, Int.reduceLT, Int.reduceToNat, UInt8.reduceToNat, Int.reduceLE, Int.reduceBEq, Int.reduceBNe, Int.reduceAdd, Int.reduceSub, Int.reduceMul, Int.reduceNeg, g1, t4, a4, n4, b4, m4, cImg12_at, spGet_mv, G1, G2, G3, W1, W2, W3, g2, g3, g4, List.length_map]))
    all_goals (first | refine fin_ret ?_ | refine fin_normal ?_)
    all_goals simp only [resOf, Try.results12, Try.ntmps12, go_sem, Nat.reduceEqDiff, Nat.reduceLT, Nat.reduceLeDiff, Nat.reduceAdd, Nat.reduceSub, Nat.reduceMul, Nat.reduceBEq, ↓reduceIte, reduceCtorEq, Int.reduceLT, Int.reduceToNat, UInt8.reduceToNat, Int.reduceLE, Int.reduceBEq, Int.reduceBNe, Int.reduceAdd, Int.reduceSub, Int.reduceMul, Int.reduceNeg]
    all_goals rfl
  have g4 : decide (65536 < wordAt l 8) = false := by simp; omega
  by_cases s5 : wordAt l 12 ≤ wordAt l 8
  case neg =>
    have hr : readX l = (none, 2) := by unfold readX; rw [if_neg c1, if_neg (by simp [c2]), if_pos (by simp [sizesB, s5])]
    have g5 : decide (wordAt l 8 < wordAt l 12) = true := by simp; omega
    rw [hr]
    simp only [go_sem, Nat.reduceEqDiff, Nat.reduceLT, Nat.reduceLeDiff, Nat.reduceAdd, Nat.reduceSub, Nat.reduceMul, Nat.reduceBEq, ↓reduceIte, reduceCtorEq, Int.reduceLT, Int.reduceToNat, UInt8.reduceToNat, Int.reduceLE, Int.reduceBEq, Int.reduceBNe, Int.reduceAdd, Int.reduceSub, Int.reduceMul, Int.reduceNeg, g1, t4, a4, n4, b4, m4, cImg12_at, spGet_mv, G1, G2, G3, W1, W2, W3, g2, g3, g4, g5, List.length_map]
    repeat' (first | (refine AG_of ?_ ?_ <;> intro h <;> simp only [go_sem, Nat.reduceEqDiff, Nat.reduceLT, Nat.reduceLeDiff, Nat.reduceAdd, Nat.reduceSub, Nat.reduceMul, Nat.reduceBEq, ↓reduceIte, reduceCtorEq, Int.reduceLT, Int.reduceToNat, UInt8.reduceToNat, Int.reduceLE, Int.reduceBEq, Int.reduceBNe, Int.reduceAdd, Int.reduceSub, Int.reduceMul, Int.reduceNeg, g1, t4, a4, n4, b4, m4, cImg12_at, spGet_mv, G1, G2, G3, W1, W2, W3, g2, g3, g4, g5, List.length_map, h]) | (refine AB_of ?_ ?_ <;> intro h <;> simp only [go_sem, Nat.reduceEqDiff, Nat.reduceLT, Nat.reduceLeDiff, Nat.reduceAdd, Nat.reduceSub, Nat.reduceMul, Nat.reduceBEq, ↓reduceIte, reduceCtorEq, Int.reduceLT, Int.reduceToNat, UInt8.reduceToNat, Int.reduceLE, Int.reduceBEq, Int.reduceBNe, Int.reduceAdd, Int.reduceSub, Int.reduceMul, Int.reduceNeg, g1, t4, a4, n4, b4, m4, cImg12_at, spGet_mv, G1, G2, G3, W1, W2, W3, g2, g3, g4, g5, List.length_map, h]) | (refine A_draw_of [] [] (by kernel_rfl) ?_ <;> simp only [go_sem, Nat.reduceEqDiff, Nat.reduceLT, Nat.reduceLeDiff, Nat.reduceAdd, Nat.reduceSub, Nat.reduceMul, Nat.reduceBEq, ↓reduceIte, reduceCtorEq, Int.reduceLT, Int.reduceToNat, UInt8.reduceToNat, Int.reduceLE, Int.reduceBEq, Int.reduceBNe, Int.reduceAdd, Int.reduceSub, Int.reduceMul, Int.reduceNeg, g1, t4, a4, n4, b4, m4, cImg12_at, spGet_mv, G1, G2, G3, W1, W2, W3, g2, g3, g4, g5, List.length_map]))
    all_goals (first | refine fin_ret ?_ | refine fin_normal ?_)
    all_goals simp only [resOf, Try.results12, Try.ntmps12, go_sem, Nat.reduceEqDiff, Nat.reduceLT, Nat.reduceLeDiff, Nat.reduceAdd, Nat.reduceSub, Nat.reduceMul, Nat.reduceBEq, ↓reduceIte, reduceCtorEq, Int.reduceLT, Int.reduceToNat, UInt8.reduceToNat, Int.reduceLE, Int.reduceBEq, Int.reduceBNe, Int.reduceAdd, Int.reduceSub, Int.reduceMul, Int.reduceNeg]
    all_goals rfl
  have g5 : decide (wordAt l 8 < wordAt l 12) = false := by simp; omega
  have c3 : sizesB (wordAt l 4) (wordAt l 8) (wordAt l 12) = true := by simp [sizesB, s1, s2, y0, s4, s5]
  by_cases c4 : (l.length : Int) = 16 + 4 * wordAt l 4 + wordAt l 12
  case neg =>
    have hr : readX l = (none, 2) := by unfold readX; rw [if_neg c1, if_neg (by simp [c2]), if_neg (by simp [c3]), if_pos c4]
    rw [hr]
    have g6 : ((l.length : Int) != 16 + 4 * wordAt l 4 + wordAt l 12) = true := by simp [c4]
    simp only [go_sem, Nat.reduceEqDiff, Nat.reduceLT, Nat.reduceLeDiff, Nat.reduceAdd, Nat.reduceSub, Nat.reduceMul, Nat.reduceBEq, ↓reduceIte, reduceCtorEq, Int.reduceLT, Int.reduceToNat, UInt8.reduceToNat, Int.reduceLE, Int.reduceBEq, Int.reduceBNe, Int.reduceAdd, Int.reduceSub, Int.reduceMul, Int.reduceNeg, g1, t4, a4, n4, b4, m4, cImg12_at, spGet_mv, G1, G2, G3, W1, W2, W3, V1, V2, V3, g2, g3, g4, g5, g6, List.length_map]
    repeat' (first | (refine AG_of ?_ ?_ <;> intro h <;> simp only [go_sem, Nat.reduceEqDiff, Nat.reduceLT, Nat.reduceLeDiff, Nat.reduceAdd, Nat.reduceSub, Nat.reduceMul, Nat.reduceBEq, ↓reduceIte, reduceCtorEq, Int.reduceLT, Int.reduceToNat, UInt8.reduceToNat, Int.reduceLE, Int.reduceBEq, Int.reduceBNe, Int.reduceAdd, Int.reduceSub, Int.reduceMul, Int.reduceNeg, g1, t4, a4, n4, b4, m4, cImg12_at, spGet_mv, G1, G2, G3, W1, W2, W3, V1, V2, V3, g2, g3, g4, g5, g6, List.length_map, h]) | (refine AB_of ?_ ?_ <;> intro h <;> simp only [go_sem, Nat.reduceEqDiff, Nat.reduceLT, Nat.reduceLeDiff, Nat.reduceAdd, Nat.reduceSub, Nat.reduceMul, Nat.reduceBEq, ↓reduceIte, reduceCtorEq, Int.reduceLT, Int.reduceToNat, UInt8.reduceToNat, Int.reduceLE, Int.reduceBEq, Int.reduceBNe, Int.reduceAdd, Int.reduceSub, Int.reduceMul, Int.reduceNeg, g1, t4, a4, n4, b4, m4, cImg12_at, spGet_mv, G1, G2, G3, W1, W2, W3, V1, V2, V3, g2, g3, g4, g5, g6, List.length_map, h]) | (refine A_draw_of [] [] (by kernel_rfl) ?_ <;> simp only [go_sem, Nat.reduceEqDiff, Nat.reduceLT, Nat.reduceLeDiff, Nat.reduceAdd, Nat.reduceSub, Nat.reduceMul, Nat.reduceBEq, ↓reduceIte, reduceCtorEq, Int.reduceLT, Int.reduceToNat, UInt8.reduceToNat, Int.reduceLE, Int.reduceBEq, Int.reduceBNe, Int.reduceAdd, Int.reduceSub, Int.reduceMul, Int.reduceNeg, g1, t4, a4, n4, b4, m4, cImg12_at, spGet_mv, G1, G2, G3, W1, W2, W3, V1, V2, V3, g2, g3, g4, g5, g6, List.length_map]))
    all_goals (first | refine fin_ret ?_ | refine fin_normal ?_)
    all_goals simp only [resOf, Try.results12, Try.ntmps12, go_sem, Nat.reduceEqDiff, Nat.reduceLT, Nat.reduceLeDiff, Nat.reduceAdd, Nat.reduceSub, Nat.reduceMul, Nat.reduceBEq, ↓reduceIte, reduceCtorEq, Int.reduceLT, Int.reduceToNat, UInt8.reduceToNat, Int.reduceLE, Int.reduceBEq, Int.reduceBNe, Int.reduceAdd, Int.reduceSub, Int.reduceMul, Int.reduceNeg]
    all_goals rfl
  have g6 : ((l.length : Int) != 16 + 4 * wordAt l 4 + wordAt l 12) = false := by simp [c4]
  obtain ⟨N, hN⟩ : ∃ N : Nat, wordAt l 4 = N := ⟨(wordAt l 4).toNat, by omega⟩
  have n5 : IntKind.i64.wrap (16 + 4 * wordAt l 4) = (16 + 4 * N : Nat) := by rw [w_i64 (by omega) (by omega)]; omega
  have b5 : ((16 + 4 * N : Nat) : Int) ≤ l.length := by omega
  have z5 := Int.natCast_nonneg (16 + 4 * N)
  have d5 : List.take (l.length - (16 + 4 * N)) (List.drop (16 + 4 * N) (l.map u8v)) = (l.drop (16 + 4 * N)).map u8v := by
    rw [← List.map_drop, List.take_of_length_le (by simp)]
  have sc := scal_u8 (l.drop (16 + 4 * N))
  have f0 : (l.length - (16 + 4 * N)) * 1 ≤ 140737488355328 := by omega
  have ld : ((l.drop (16 + 4 * N)).map u8v).length = l.length - (16 + 4 * N) := by simp
  have g6' : ((l.length : Int) != ((16 + 4 * N : Nat) : Int) + wordAt l 12) = false := by simp; omega
  have V4 : IntKind.i64.wrap (((16 + 4 * N : Nat) : Int) + wordAt l 12) = ((16 + 4 * N : Nat) : Int) + wordAt l 12 := w_i64 (by omega) (by omega)
  simp only [go_sem, Nat.reduceEqDiff, Nat.reduceLT, Nat.reduceLeDiff, Nat.reduceAdd, Nat.reduceSub, Nat.reduceMul, Nat.reduceBEq, ↓reduceIte, reduceCtorEq, Int.reduceLT, Int.reduceToNat, UInt8.reduceToNat, Int.reduceLE, Int.reduceBEq, Int.reduceBNe, Int.reduceAdd, Int.reduceSub, Int.reduceMul, Int.reduceNeg, g1, t4, a4, n4, b4, m4, cImg12_at, spGet_mv, G1, G2, G3, W1, W2, W3, V1, n5, V4, g2, g3, g4, g5, g6', b5, z5, d5, sc, f0, ld, List.length_map, Int.toNat_natCast]
  repeat' (first | (refine AG_of ?_ ?_ <;> intro h <;> simp only [go_sem, Nat.reduceEqDiff, Nat.reduceLT, Nat.reduceLeDiff, Nat.reduceAdd, Nat.reduceSub, Nat.reduceMul, Nat.reduceBEq, ↓reduceIte, reduceCtorEq, Int.reduceLT, Int.reduceToNat, UInt8.reduceToNat, Int.reduceLE, Int.reduceBEq, Int.reduceBNe, Int.reduceAdd, Int.reduceSub, Int.reduceMul, Int.reduceNeg, g1, t4, a4, n4, b4, m4, cImg12_at, spGet_mv, G1, G2, G3, W1, W2, W3, V1, n5, V4, g2, g3, g4, g5, g6', b5, z5, d5, sc, f0, ld, List.length_map, Int.toNat_natCast, h]) | (refine AB_of ?_ ?_ <;> intro h <;> simp only [go_sem, Nat.reduceEqDiff, Nat.reduceLT, Nat.reduceLeDiff, Nat.reduceAdd, Nat.reduceSub, Nat.reduceMul, Nat.reduceBEq, ↓reduceIte, reduceCtorEq, Int.reduceLT, Int.reduceToNat, UInt8.reduceToNat, Int.reduceLE, Int.reduceBEq, Int.reduceBNe, Int.reduceAdd, Int.reduceSub, Int.reduceMul, Int.reduceNeg, g1, t4, a4, n4, b4, m4, cImg12_at, spGet_mv, G1, G2, G3, W1, W2, W3, V1, n5, V4, g2, g3, g4, g5, g6', b5, z5, d5, sc, f0, ld, List.length_map, Int.toNat_natCast, h]) | (refine A_draw_of [] [] (by kernel_rfl) ?_ <;> simp only [go_sem, Nat.reduceEqDiff, Nat.reduceLT, Nat.reduceLeDiff, Nat.reduceAdd, Nat.reduceSub, Nat.reduceMul, Nat.reduceBEq, ↓reduceIte, reduceCtorEq, Int.reduceLT, Int.reduceToNat, UInt8.reduceToNat, Int.reduceLE, Int.reduceBEq, Int.reduceBNe, Int.reduceAdd, Int.reduceSub, Int.reduceMul, Int.reduceNeg, g1, t4, a4, n4, b4, m4, cImg12_at, spGet_mv, G1, G2, G3, W1, W2, W3, V1, n5, V4, g2, g3, g4, g5, g6', b5, z5, d5, sc, f0, ld, List.length_map, Int.toNat_natCast]))
  clear G1 G2 G3 W1 W2 W3 V1 V2 V3 V4 t4 a4 n4 b4 m4 g1 g2 g3 g4 g5 g6 g6'
  refine A_loop (rreadI l (l.drop (16 + 4 * N)) (wordAt l 4) (wordAt l 8)) (fun s => N - (numOf (s.env 14)).toNat) ?_ ?_
  · refine ⟨by simp [upd, init, V.unfr], by simp [upd], by simp [upd, init], by simp [upd, init], by simp [upd], by simp [upd, init], 0, by simp [upd], by omega, rfl, .inl ⟨rfl, by simp [upd, init]⟩⟩
  intro s hs
  obtain ⟨e0, e2, t2, e13, e10, t82, k, e14, hk, hall, hbox⟩ := hs
  rcases Nat.lt_or_ge k N with hlt | hge
  · have g0 : decide ((k : Int) < wordAt l 4) = true := by simp; omega
    have n2 : IntKind.i64.wrap ((k : Int) + 1) = (k + 1 : Nat) := by rw [w_i64 (by omega) (by omega)]; omega
    have n3 : IntKind.i64.wrap (4 * (k : Int)) = 4 * k := w_i64 (by omega) (by omega)
    have n4 : IntKind.i64.wrap (16 + 4 * (k : Int)) = (16 + 4 * k : Nat) := by rw [w_i64 (by omega) (by omega)]; omega
    have G := spGet_fn hb hlen (k := 16 + 4 * k) (by omega)
    have D := decT_v (wordAt_bd hb (16 + 4 * k))
    have hr2 : List.range (k + 1) = List.range k ++ [k] := List.range_succ
    obtain ⟨op, d, a, b, imm, hi⟩ : ∃ op d a b imm, insAt l k = ⟨op, d, a, b, imm⟩ := ⟨_, _, _, _, _, rfl⟩
    have hi' : (decT (wordAt l (16 + 4 * k))).1 = ⟨op, d, a, b, imm⟩ := hi
    have ho' : (decT (wordAt l (16 + 4 * k))).2 = insOkAt l k := rfl
    rw [hi', ho'] at D
    simp only [Ins.v] at D
    cases ho : insOkAt l k
    · have hr : readX l = (none, 3) := by
        have : (List.range (wordAt l 4).toNat).all (insOkAt l) = false := by
          rw [List.all_eq_false]
          exact ⟨k, by simp; omega, by simp [ho]⟩
        unfold readX
        rw [if_neg c1, if_neg (by simp [c2]), if_neg (by simp [c3]), if_neg (by simp [c4]), if_pos this]
      rw [hr]
      rw [ho] at D
      simp only [go_sem, Nat.reduceEqDiff, Nat.reduceLT, Nat.reduceLeDiff, Nat.reduceAdd, Nat.reduceSub, Nat.reduceMul, Nat.reduceBEq, ↓reduceIte, reduceCtorEq, Int.reduceLT, Int.reduceToNat, UInt8.reduceToNat, Int.reduceLE, Int.reduceBEq, Int.reduceBNe, Int.reduceAdd, Int.reduceSub, Int.reduceMul, Int.reduceNeg, e0, e2, t2, e13, e10, e14, g0, n2, n3, n4, G, D, cImg12_at, spGet_mv, spDecode_mv]
      repeat' (first | (refine AG_of ?_ ?_ <;> intro h <;> simp only [go_sem, Nat.reduceEqDiff, Nat.reduceLT, Nat.reduceLeDiff, Nat.reduceAdd, Nat.reduceSub, Nat.reduceMul, Nat.reduceBEq, ↓reduceIte, reduceCtorEq, Int.reduceLT, Int.reduceToNat, UInt8.reduceToNat, Int.reduceLE, Int.reduceBEq, Int.reduceBNe, Int.reduceAdd, Int.reduceSub, Int.reduceMul, Int.reduceNeg, e0, e2, t2, e13, e10, e14, g0, n2, n3, n4, G, D, cImg12_at, spGet_mv, spDecode_mv, h]) | (refine AB_of ?_ ?_ <;> intro h <;> simp only [go_sem, Nat.reduceEqDiff, Nat.reduceLT, Nat.reduceLeDiff, Nat.reduceAdd, Nat.reduceSub, Nat.reduceMul, Nat.reduceBEq, ↓reduceIte, reduceCtorEq, Int.reduceLT, Int.reduceToNat, UInt8.reduceToNat, Int.reduceLE, Int.reduceBEq, Int.reduceBNe, Int.reduceAdd, Int.reduceSub, Int.reduceMul, Int.reduceNeg, e0, e2, t2, e13, e10, e14, g0, n2, n3, n4, G, D, cImg12_at, spGet_mv, spDecode_mv, h]) | (refine A_draw_of [] [] (by kernel_rfl) ?_ <;> simp only [go_sem, Nat.reduceEqDiff, Nat.reduceLT, Nat.reduceLeDiff, Nat.reduceAdd, Nat.reduceSub, Nat.reduceMul, Nat.reduceBEq, ↓reduceIte, reduceCtorEq, Int.reduceLT, Int.reduceToNat, UInt8.reduceToNat, Int.reduceLE, Int.reduceBEq, Int.reduceBNe, Int.reduceAdd, Int.reduceSub, Int.reduceMul, Int.reduceNeg, e0, e2, t2, e13, e10, e14, g0, n2, n3, n4, G, D, cImg12_at, spGet_mv, spDecode_mv]))
      all_goals (first | refine fin_ret ?_ | refine fin_normal ?_)
      all_goals simp only [resOf, Try.results12, Try.ntmps12, go_sem, Nat.reduceEqDiff, Nat.reduceLT, Nat.reduceLeDiff, Nat.reduceAdd, Nat.reduceSub, Nat.reduceMul, Nat.reduceBEq, ↓reduceIte, reduceCtorEq, Int.reduceLT, Int.reduceToNat, UInt8.reduceToNat, Int.reduceLE, Int.reduceBEq, Int.reduceBNe, Int.reduceAdd, Int.reduceSub, Int.reduceMul, Int.reduceNeg, e2, t2]
      all_goals rfl
    · rw [ho] at D
      have hall2 : (List.range (k + 1)).all (insOkAt l) = true := by rw [hr2, List.all_append, hall]; simp [ho]
      have f1 : (k + 1) * 40 ≤ 140737488355328 := by omega
      rcases hbox with ⟨hk0, t13⟩ | ⟨v, t13, t109⟩
      ·
        simp only [go_sem, Nat.reduceEqDiff, Nat.reduceLT, Nat.reduceLeDiff, Nat.reduceAdd, Nat.reduceSub, Nat.reduceMul, Nat.reduceBEq, ↓reduceIte, reduceCtorEq, Int.reduceLT, Int.reduceToNat, UInt8.reduceToNat, Int.reduceLE, Int.reduceBEq, Int.reduceBNe, Int.reduceAdd, Int.reduceSub, Int.reduceMul, Int.reduceNeg, e0, e2, t2, e13, e10, e14, t13, g0, n2, n3, n4, G, D, cImg12_at, spGet_mv, spDecode_mv, f1, List.length_map, List.length_range]
        repeat' (first | (refine AG_of ?_ ?_ <;> intro h <;> simp only [go_sem, Nat.reduceEqDiff, Nat.reduceLT, Nat.reduceLeDiff, Nat.reduceAdd, Nat.reduceSub, Nat.reduceMul, Nat.reduceBEq, ↓reduceIte, reduceCtorEq, Int.reduceLT, Int.reduceToNat, UInt8.reduceToNat, Int.reduceLE, Int.reduceBEq, Int.reduceBNe, Int.reduceAdd, Int.reduceSub, Int.reduceMul, Int.reduceNeg, e0, e2, t2, e13, e10, e14, t13, g0, n2, n3, n4, G, D, cImg12_at, spGet_mv, spDecode_mv, f1, List.length_map, List.length_range, h]) | (refine AB_of ?_ ?_ <;> intro h <;> simp only [go_sem, Nat.reduceEqDiff, Nat.reduceLT, Nat.reduceLeDiff, Nat.reduceAdd, Nat.reduceSub, Nat.reduceMul, Nat.reduceBEq, ↓reduceIte, reduceCtorEq, Int.reduceLT, Int.reduceToNat, UInt8.reduceToNat, Int.reduceLE, Int.reduceBEq, Int.reduceBNe, Int.reduceAdd, Int.reduceSub, Int.reduceMul, Int.reduceNeg, e0, e2, t2, e13, e10, e14, t13, g0, n2, n3, n4, G, D, cImg12_at, spGet_mv, spDecode_mv, f1, List.length_map, List.length_range, h]) | (refine A_draw_of [] [] (by kernel_rfl) ?_ <;> simp only [go_sem, Nat.reduceEqDiff, Nat.reduceLT, Nat.reduceLeDiff, Nat.reduceAdd, Nat.reduceSub, Nat.reduceMul, Nat.reduceBEq, ↓reduceIte, reduceCtorEq, Int.reduceLT, Int.reduceToNat, UInt8.reduceToNat, Int.reduceLE, Int.reduceBEq, Int.reduceBNe, Int.reduceAdd, Int.reduceSub, Int.reduceMul, Int.reduceNeg, e0, e2, t2, e13, e10, e14, t13, g0, n2, n3, n4, G, D, cImg12_at, spGet_mv, spDecode_mv, f1, List.length_map, List.length_range]))
        refine ⟨⟨by simp [upd, e0], by simp [upd, e2], by simp [upd, t2], by simp [upd, e13], by simp [upd, e10], by simp [upd, t82], k + 1, by simp [upd], by omega, hall2, .inr ⟨(s.st 109).ver + 1, by simp [upd, hk0], ?_⟩⟩, by simp [upd, numOf, e14]; omega⟩
        subst hk0
        simp [upd, hi, Ins.v]
      ·
        simp only [go_sem, Nat.reduceEqDiff, Nat.reduceLT, Nat.reduceLeDiff, Nat.reduceAdd, Nat.reduceSub, Nat.reduceMul, Nat.reduceBEq, ↓reduceIte, reduceCtorEq, Int.reduceLT, Int.reduceToNat, UInt8.reduceToNat, Int.reduceLE, Int.reduceBEq, Int.reduceBNe, Int.reduceAdd, Int.reduceSub, Int.reduceMul, Int.reduceNeg, e0, e2, t2, e13, e10, e14, t13, t109, g0, n2, n3, n4, G, D, cImg12_at, spGet_mv, spDecode_mv, f1, List.length_map, List.length_range]
        repeat' (first | (refine AG_of ?_ ?_ <;> intro h <;> simp only [go_sem, Nat.reduceEqDiff, Nat.reduceLT, Nat.reduceLeDiff, Nat.reduceAdd, Nat.reduceSub, Nat.reduceMul, Nat.reduceBEq, ↓reduceIte, reduceCtorEq, Int.reduceLT, Int.reduceToNat, UInt8.reduceToNat, Int.reduceLE, Int.reduceBEq, Int.reduceBNe, Int.reduceAdd, Int.reduceSub, Int.reduceMul, Int.reduceNeg, e0, e2, t2, e13, e10, e14, t13, t109, g0, n2, n3, n4, G, D, cImg12_at, spGet_mv, spDecode_mv, f1, List.length_map, List.length_range, h]) | (refine AB_of ?_ ?_ <;> intro h <;> simp only [go_sem, Nat.reduceEqDiff, Nat.reduceLT, Nat.reduceLeDiff, Nat.reduceAdd, Nat.reduceSub, Nat.reduceMul, Nat.reduceBEq, ↓reduceIte, reduceCtorEq, Int.reduceLT, Int.reduceToNat, UInt8.reduceToNat, Int.reduceLE, Int.reduceBEq, Int.reduceBNe, Int.reduceAdd, Int.reduceSub, Int.reduceMul, Int.reduceNeg, e0, e2, t2, e13, e10, e14, t13, t109, g0, n2, n3, n4, G, D, cImg12_at, spGet_mv, spDecode_mv, f1, List.length_map, List.length_range, h]) | (refine A_draw_of [] [] (by kernel_rfl) ?_ <;> simp only [go_sem, Nat.reduceEqDiff, Nat.reduceLT, Nat.reduceLeDiff, Nat.reduceAdd, Nat.reduceSub, Nat.reduceMul, Nat.reduceBEq, ↓reduceIte, reduceCtorEq, Int.reduceLT, Int.reduceToNat, UInt8.reduceToNat, Int.reduceLE, Int.reduceBEq, Int.reduceBNe, Int.reduceAdd, Int.reduceSub, Int.reduceMul, Int.reduceNeg, e0, e2, t2, e13, e10, e14, t13, t109, g0, n2, n3, n4, G, D, cImg12_at, spGet_mv, spDecode_mv, f1, List.length_map, List.length_range]))
        refine ⟨⟨by simp [upd, e0], by simp [upd, e2], by simp [upd, t2], by simp [upd, e13], by simp [upd, e10], by simp [upd, t82], k + 1, by simp [upd], by omega, hall2, .inr ⟨v + 1, by simp [upd], ?_⟩⟩, by simp [upd, numOf, e14]; omega⟩
        simp [upd, hi, Ins.v, hr2]
  · have hkN : k = N := by omega
    subst hkN
    have g0 : decide ((k : Int) < wordAt l 4) = false := by simp; omega
    have hN2 : (wordAt l 4).toNat = k := by omega
    rcases hbox with ⟨hk0, _⟩ | ⟨v, t13, t109⟩
    · omega
    obtain ⟨c, hC⟩ : ∃ c, (List.range k).map (insAt l) = c := ⟨_, rfl⟩
    have hcl : c.length = k := by rw [← hC]; simp
    have lk : (c.map Ins.v).length = k := by simp [hcl]
    rw [hC] at t109
    let q : Prg := ⟨c, wordAt l 8, l.drop (16 + 4 * k)⟩
    have ht : spRTargets.fn [.agg [.lst false 5 (c.map Ins.v), .s (.int .i64 (wordAt l 8)), .lst false 1 ((l.drop (16 + 4 * k)).map u8v)]] = some (.s (.int .i64 (targs q))) := by
      have := prgOf_v q
      unfold Prg.v at this
      simp only [spRTargets]
      rw [show prgOf _ = some q from this, Option.bind_some, if_pos (by show c.length ≤ _; omega)]
    cases hq : targsB q
    ·
      have hr : readX l = (some q, 0) := by
        unfold readX
        rw [if_neg c1, if_neg (by simp [c2]), if_neg (by simp [c3]), if_neg (by simp [c4]), hN2, hC, if_neg (by simp [hall]), if_neg (by simp [q] at hq; simp [hq])]
      rw [hr]
      have hz : targs q = 0 := by unfold targs; rw [hq]; rfl
      rw [hz] at ht
      simp only [go_sem, Nat.reduceEqDiff, Nat.reduceLT, Nat.reduceLeDiff, Nat.reduceAdd, Nat.reduceSub, Nat.reduceMul, Nat.reduceBEq, ↓reduceIte, reduceCtorEq, Int.reduceLT, Int.reduceToNat, UInt8.reduceToNat, Int.reduceLE, Int.reduceBEq, Int.reduceBNe, Int.reduceAdd, Int.reduceSub, Int.reduceMul, Int.reduceNeg, e0, e2, t2, e13, e10, e14, t13, t109, t82, g0, lk, ht, cImg12_at, spRTargets_mv, List.length_map]
      repeat' (first | (refine AG_of ?_ ?_ <;> intro h <;> simp only [go_sem, Nat.reduceEqDiff, Nat.reduceLT, Nat.reduceLeDiff, Nat.reduceAdd, Nat.reduceSub, Nat.reduceMul, Nat.reduceBEq, ↓reduceIte, reduceCtorEq, Int.reduceLT, Int.reduceToNat, UInt8.reduceToNat, Int.reduceLE, Int.reduceBEq, Int.reduceBNe, Int.reduceAdd, Int.reduceSub, Int.reduceMul, Int.reduceNeg, e0, e2, t2, e13, e10, e14, t13, t109, t82, g0, lk, ht, cImg12_at, spRTargets_mv, List.length_map, h]) | (refine AB_of ?_ ?_ <;> intro h <;> simp only [go_sem, Nat.reduceEqDiff, Nat.reduceLT, Nat.reduceLeDiff, Nat.reduceAdd, Nat.reduceSub, Nat.reduceMul, Nat.reduceBEq, ↓reduceIte, reduceCtorEq, Int.reduceLT, Int.reduceToNat, UInt8.reduceToNat, Int.reduceLE, Int.reduceBEq, Int.reduceBNe, Int.reduceAdd, Int.reduceSub, Int.reduceMul, Int.reduceNeg, e0, e2, t2, e13, e10, e14, t13, t109, t82, g0, lk, ht, cImg12_at, spRTargets_mv, List.length_map, h]) | (refine A_draw_of [] [] (by kernel_rfl) ?_ <;> simp only [go_sem, Nat.reduceEqDiff, Nat.reduceLT, Nat.reduceLeDiff, Nat.reduceAdd, Nat.reduceSub, Nat.reduceMul, Nat.reduceBEq, ↓reduceIte, reduceCtorEq, Int.reduceLT, Int.reduceToNat, UInt8.reduceToNat, Int.reduceLE, Int.reduceBEq, Int.reduceBNe, Int.reduceAdd, Int.reduceSub, Int.reduceMul, Int.reduceNeg, e0, e2, t2, e13, e10, e14, t13, t109, t82, g0, lk, ht, cImg12_at, spRTargets_mv, List.length_map]))
      all_goals (first | refine fin_ret ?_ | refine fin_normal ?_)
      all_goals simp only [resOf, Try.results12, Try.ntmps12, go_sem, Nat.reduceEqDiff, Nat.reduceLT, Nat.reduceLeDiff, Nat.reduceAdd, Nat.reduceSub, Nat.reduceMul, Nat.reduceBEq, ↓reduceIte, reduceCtorEq, Int.reduceLT, Int.reduceToNat, UInt8.reduceToNat, Int.reduceLE, Int.reduceBEq, Int.reduceBNe, Int.reduceAdd, Int.reduceSub, Int.reduceMul, Int.reduceNeg, e2, t2, ld, lk, t109, t82]
      all_goals rfl
    ·
      have hr : readX l = (none, 4) := by
        unfold readX
        rw [if_neg c1, if_neg (by simp [c2]), if_neg (by simp [c3]), if_neg (by simp [c4]), hN2, hC, if_neg (by simp [hall]), if_pos (by simp [q] at hq; simp [hq])]
      rw [hr]
      have hz : targs q = 4 := by unfold targs; rw [hq]; rfl
      rw [hz] at ht
      simp only [go_sem, Nat.reduceEqDiff, Nat.reduceLT, Nat.reduceLeDiff, Nat.reduceAdd, Nat.reduceSub, Nat.reduceMul, Nat.reduceBEq, ↓reduceIte, reduceCtorEq, Int.reduceLT, Int.reduceToNat, UInt8.reduceToNat, Int.reduceLE, Int.reduceBEq, Int.reduceBNe, Int.reduceAdd, Int.reduceSub, Int.reduceMul, Int.reduceNeg, e0, e2, t2, e13, e10, e14, t13, t109, t82, g0, lk, ht, cImg12_at, spRTargets_mv, List.length_map]
      repeat' (first | (refine AG_of ?_ ?_ <;> intro h <;> simp only [go_sem, Nat.reduceEqDiff, Nat.reduceLT, Nat.reduceLeDiff, Nat.reduceAdd, Nat.reduceSub, Nat.reduceMul, Nat.reduceBEq, ↓reduceIte, reduceCtorEq, Int.reduceLT, Int.reduceToNat, UInt8.reduceToNat, Int.reduceLE, Int.reduceBEq, Int.reduceBNe, Int.reduceAdd, Int.reduceSub, Int.reduceMul, Int.reduceNeg, e0, e2, t2, e13, e10, e14, t13, t109, t82, g0, lk, ht, cImg12_at, spRTargets_mv, List.length_map, h]) | (refine AB_of ?_ ?_ <;> intro h <;> simp only [go_sem, Nat.reduceEqDiff, Nat.reduceLT, Nat.reduceLeDiff, Nat.reduceAdd, Nat.reduceSub, Nat.reduceMul, Nat.reduceBEq, ↓reduceIte, reduceCtorEq, Int.reduceLT, Int.reduceToNat, UInt8.reduceToNat, Int.reduceLE, Int.reduceBEq, Int.reduceBNe, Int.reduceAdd, Int.reduceSub, Int.reduceMul, Int.reduceNeg, e0, e2, t2, e13, e10, e14, t13, t109, t82, g0, lk, ht, cImg12_at, spRTargets_mv, List.length_map, h]) | (refine A_draw_of [] [] (by kernel_rfl) ?_ <;> simp only [go_sem, Nat.reduceEqDiff, Nat.reduceLT, Nat.reduceLeDiff, Nat.reduceAdd, Nat.reduceSub, Nat.reduceMul, Nat.reduceBEq, ↓reduceIte, reduceCtorEq, Int.reduceLT, Int.reduceToNat, UInt8.reduceToNat, Int.reduceLE, Int.reduceBEq, Int.reduceBNe, Int.reduceAdd, Int.reduceSub, Int.reduceMul, Int.reduceNeg, e0, e2, t2, e13, e10, e14, t13, t109, t82, g0, lk, ht, cImg12_at, spRTargets_mv, List.length_map]))
      all_goals (first | refine fin_ret ?_ | refine fin_normal ?_)
      all_goals simp only [resOf, Try.results12, Try.ntmps12, go_sem, Nat.reduceEqDiff, Nat.reduceLT, Nat.reduceLeDiff, Nat.reduceAdd, Nat.reduceSub, Nat.reduceMul, Nat.reduceBEq, ↓reduceIte, reduceCtorEq, Int.reduceLT, Int.reduceToNat, UInt8.reduceToNat, Int.reduceLE, Int.reduceBEq, Int.reduceBNe, Int.reduceAdd, Int.reduceSub, Int.reduceMul, Int.reduceNeg, e2, t2, ld, lk, t109, t82]
      all_goals rfl
end Go.Proofs.Ytecckfhmgnlmnaa
