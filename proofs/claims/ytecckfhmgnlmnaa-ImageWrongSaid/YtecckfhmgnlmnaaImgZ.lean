/-
ImageBack as a law, ImageTargets by the plain reckoning. No condition.
-/
import Derived.Test.YtecckfhmgnlmnaaImgY
namespace Go.Proofs.Ytecckfhmgnlmnaa
set_option linter.unusedSimpArgs false

theorem back_ok {x : V} {cut more : Int} (h : ∃ p, prgOf x = some p ∧ p.data.all byte = true ∧ (∀ i ∈ p.code, WfI i) ∧ p.code.length ≤ maxLen ∧ p.data.length ≤ maxLen) (hc : (Lit.int .i64 cut).wf = true) (hm : (Lit.int .u8 more).wf = true) : spBack.fn [x, .s (.int .i64 cut), .s (.int .u8 more)] = some (.s (.bool true)) := by
  obtain ⟨p, h1, h2, _⟩ := h
  have h3 := wf_i64 hc
  have h4 := wf_u8 hm
  have h5 : byte more = true := by simp only [byte, Bool.and_eq_true, decide_eq_true_eq]; omega
  simp only [spBack, h1, Option.bind_some, if_pos (And.intro h2 (And.intro h5 (show cut ≤ 9223372036854775807 by omega)))]

/-- n halts -/
def haltI : Ins := ⟨41, 0, 0, 0, 0⟩
def jmpP (N a : Nat) (op imm : Int) : Prg := ⟨(List.replicate N haltI).set a ⟨op, 0, 0, 0, imm⟩, 0, []⟩
theorem jmp_at {N a : Nat} {op imm : Int} (h : a < N) (k : Nat) : (jmpP N a op imm).code[k]? = if k = a then some ⟨op, 0, 0, 0, imm⟩ else if k < N then some haltI else none := by
  simp only [jmpP, List.getElem?_set, List.length_replicate, List.getElem?_replicate]
  by_cases e : a = k
  · subst e; simp [h]
  · have e' : ¬ k = a := fun x => e x.symm
    rw [if_neg e, if_neg e']
theorem jmp_len (N a : Nat) (op imm : Int) : (jmpP N a op imm).code.length = N := by simp [jmpP]
theorem form_jmp {op : Int} (h0 : 34 ≤ op) (h1 : op ≤ 40) : form op = 6 ∨ form op = 7 := by
  have : op = 34 ∨ op = 35 ∨ op = 36 ∨ op = 37 ∨ op = 38 ∨ op = 39 ∨ op = 40 := by omega
  rcases this with rfl | rfl | rfl | rfl | rfl | rfl | rfl <;> decide
theorem right_jmp {op imm : Int} (h0 : 34 ≤ op) (h1 : op ≤ 40) (h2 : -100 ≤ imm) (h3 : imm ≤ 100) : rightB ⟨op, 0, 0, 0, imm⟩ = true := by
  have : op = 34 ∨ op = 35 ∨ op = 36 ∨ op = 37 ∨ op = 38 ∨ op = 39 ∨ op = 40 := by omega
  have k0 : decide (-8192 ≤ imm) = true := by simp; omega
  have k1 : decide (imm ≤ 8191) = true := by simp; omega
  rcases this with rfl | rfl | rfl | rfl | rfl | rfl | rfl <;>
    (first | (simp [rightB, form, withinB, hasDB, hasAB, hasBB, hasImmB, loB, hiB, shiftB]; done) | (simp [rightB, form, withinB, hasDB, hasAB, hasBB, hasImmB, loB, hiB, shiftB]; omega))
theorem jmp_targs {N a : Nat} {op imm : Int} (h : a < N) (h0 : 34 ≤ op) (h1 : op ≤ 40) : targsB (jmpP N a op imm) = !(decide (0 ≤ (a : Int) + imm) && decide ((a : Int) + imm < N)) := by
  have hf : (form op == 6 || form op == 7) = true := by rcases form_jmp h0 h1 with e | e <;> simp [e]
  have hb : badAt (jmpP N a op imm) a = !(decide (0 ≤ (a : Int) + imm) && decide ((a : Int) + imm < N)) := by
    unfold badAt
    rw [jmp_at h, if_pos rfl, jmp_len]
    simp only [badI, hf, Bool.true_and]
    rw [Bool.eq_iff_iff]
    simp
  have ho : ∀ k, k ≠ a → badAt (jmpP N a op imm) k = false := fun k hk => by
    unfold badAt
    rw [jmp_at h, if_neg hk]
    split
    · rename_i hi
      split at hi
      · cases hi; rfl
      · cases hi
    · rfl
  unfold targsB
  rw [← hb, jmp_len]
  cases hh : badAt (jmpP N a op imm) a
  · rw [List.any_eq_false]
    intro k _
    by_cases e : k = a
    · rw [e, hh]; decide
    · rw [ho k e]; decide
  · rw [List.any_eq_true]
    exact ⟨a, by simp [h], hh⟩
theorem jmp_right {N a : Nat} {op imm : Int} (h : a < N) (hN : N ≤ 60) (h0 : 34 ≤ op) (h1 : op ≤ 40) (h2 : -100 ≤ imm) (h3 : imm ≤ 100) : rightP (jmpP N a op imm) = !targsB (jmpP N a op imm) := by
  have e1 : (jmpP N a op imm).code.all rightB = true := by
    rw [List.all_eq_true]
    intro i hi
    obtain ⟨k, hk⟩ := List.mem_iff_getElem?.1 hi
    rw [jmp_at h] at hk
    split at hk
    · cases hk; exact right_jmp h0 h1 h2 h3
    · split at hk
      · cases hk; decide
      · cases hk
  have e2 : headB (jmpP N a op imm) = true := by
    have e3 := jmp_len N a op imm
    simp only [headB, Bool.and_eq_true, decide_eq_true_eq, e3]
    refine ⟨⟨⟨⟨by omega, by omega⟩, by simp [jmpP]⟩, by simp [jmpP]⟩, by simp [jmpP]⟩
  unfold rightP
  rw [e1, e2]; rfl

/-- k halts stand in the program's box -/
def tgtI (n a imm op : Int) (s : S) : Prop :=
  s.env 0 = .s (.int .i64 n) ∧ s.env 1 = .s (.int .i64 a) ∧ s.env 2 = .s (.int .i64 imm) ∧ s.env 3 = .s (.int .i64 op) ∧ s.env 10 = .ptr 10 1 0 ∧
  ∃ k : Nat, s.env 11 = .s (.int .i64 k) ∧ (k : Int) ≤ n ∧
    ((k = 0 ∧ s.st 10 = ⟨1, .box [.s (.slice none 0 0), .s (.int .i64 0), .s (.slice none 0 0)]⟩) ∨
    ∃ v, s.st 10 = ⟨1, .box [.sw 60 v k, .s (.int .i64 0), .s (.slice none 0 0)]⟩ ∧ s.st 60 = ⟨v, .row 5 41 (List.replicate k haltI.v)⟩)

def spTgt : Spec := ⟨[], fun xs => match xs with
  | [.s (.int .i64 _), .s (.int .i64 _), .s (.int .i64 _), .s (.int .i64 _)] => some (.s (.bool true))
  | _ => none⟩
set_option maxHeartbeats 4000000 in
set_option maxRecDepth 8000 in
theorem tgt_impl : Impl Try.prog 5 spTgt := by
  refine impl_walk mixed cImg14_ok eqT_ok Try.func5 rfl Try.ntmps5 (by kernel_rfl) ?_
  intro xs r h
  unfold spTgt at h
  simp only at h
  (try split at h) <;> try (cases (show none = some r from h); done)
  rename_i n a imm op
  cases h
  refine ⟨by simp, ?_⟩
  by_cases c0 : n < 1
  · have g0 : decide (n < 1) = true := by simp [c0]
    simp only [go_sem, Nat.reduceEqDiff, Nat.reduceLT, Nat.reduceLeDiff, Nat.reduceAdd, Nat.reduceSub, Nat.reduceMul, Nat.reduceBEq, ↓reduceIte, reduceCtorEq, Int.reduceLT, Int.reduceToNat, UInt8.reduceToNat, Int.reduceLE, Int.reduceBEq, Int.reduceBNe, Int.reduceAdd, Int.reduceSub, Int.reduceMul, Int.reduceNeg, cImg14_at, spTrue_mv, spTrue_fn, g0]
    repeat' (first | (refine AG_of ?_ ?_ <;> intro h <;> simp only [go_sem, Nat.reduceEqDiff, Nat.reduceLT, Nat.reduceLeDiff, Nat.reduceAdd, Nat.reduceSub, Nat.reduceMul, Nat.reduceBEq, ↓reduceIte, reduceCtorEq, Int.reduceLT, Int.reduceToNat, UInt8.reduceToNat, Int.reduceLE, Int.reduceBEq, Int.reduceBNe, Int.reduceAdd, Int.reduceSub, Int.reduceMul, Int.reduceNeg, cImg14_at, spTrue_mv, spTrue_fn, g0, h]) | (refine AB_of ?_ ?_ <;> intro h <;> simp only [go_sem, Nat.reduceEqDiff, Nat.reduceLT, Nat.reduceLeDiff, Nat.reduceAdd, Nat.reduceSub, Nat.reduceMul, Nat.reduceBEq, ↓reduceIte, reduceCtorEq, Int.reduceLT, Int.reduceToNat, UInt8.reduceToNat, Int.reduceLE, Int.reduceBEq, Int.reduceBNe, Int.reduceAdd, Int.reduceSub, Int.reduceMul, Int.reduceNeg, cImg14_at, spTrue_mv, spTrue_fn, g0, h]) | (refine A_draw_of [] [] (by kernel_rfl) ?_ <;> simp only [go_sem, Nat.reduceEqDiff, Nat.reduceLT, Nat.reduceLeDiff, Nat.reduceAdd, Nat.reduceSub, Nat.reduceMul, Nat.reduceBEq, ↓reduceIte, reduceCtorEq, Int.reduceLT, Int.reduceToNat, UInt8.reduceToNat, Int.reduceLE, Int.reduceBEq, Int.reduceBNe, Int.reduceAdd, Int.reduceSub, Int.reduceMul, Int.reduceNeg, cImg14_at, spTrue_mv, spTrue_fn, g0]))
    all_goals (first | refine fin_ret ?_ | refine fin_normal ?_)
    all_goals simp only [resOf, Try.results5, Try.ntmps5, go_sem, Nat.reduceEqDiff, Nat.reduceLT, Nat.reduceLeDiff, Nat.reduceAdd, Nat.reduceSub, Nat.reduceMul, Nat.reduceBEq, ↓reduceIte, reduceCtorEq, Int.reduceLT, Int.reduceToNat, UInt8.reduceToNat, Int.reduceLE, Int.reduceBEq, Int.reduceBNe, Int.reduceAdd, Int.reduceSub, Int.reduceMul, Int.reduceNeg]
  have g0 : decide (n < 1) = false := by simp; omega
  by_cases c1 : 60 < n
  · have g1 : decide (60 < n) = true := by simp [c1]
    simp only [go_sem, Nat.reduceEqDiff, Nat.reduceLT, Nat.reduceLeDiff, Nat.reduceAdd, Nat.reduceSub, Nat.reduceMul, Nat.reduceBEq, ↓reduceIte, reduceCtorEq, Int.reduceLT, Int.reduceToNat, UInt8.reduceToNat, Int.reduceLE, Int.reduceBEq, Int.reduceBNe, Int.reduceAdd, Int.reduceSub, Int.reduceMul, Int.reduceNeg, cImg14_at, spTrue_mv, spTrue_fn, g0, g1]
    repeat' (first | (refine AG_of ?_ ?_ <;> intro h <;> simp only [go_sem, Nat.reduceEqDiff, Nat.reduceLT, Nat.reduceLeDiff, Nat.reduceAdd, Nat.reduceSub, Nat.reduceMul, Nat.reduceBEq, ↓reduceIte, reduceCtorEq, Int.reduceLT, Int.reduceToNat, UInt8.reduceToNat, Int.reduceLE, Int.reduceBEq, Int.reduceBNe, Int.reduceAdd, Int.reduceSub, Int.reduceMul, Int.reduceNeg, cImg14_at, spTrue_mv, spTrue_fn, g0, g1, h]) | (refine AB_of ?_ ?_ <;> intro h <;> simp only [go_sem, Nat.reduceEqDiff, Nat.reduceLT, Nat.reduceLeDiff, Nat.reduceAdd, Nat.reduceSub, Nat.reduceMul, Nat.reduceBEq, ↓reduceIte, reduceCtorEq, Int.reduceLT, Int.reduceToNat, UInt8.reduceToNat, Int.reduceLE, Int.reduceBEq, Int.reduceBNe, Int.reduceAdd, Int.reduceSub, Int.reduceMul, Int.reduceNeg, cImg14_at, spTrue_mv, spTrue_fn, g0, g1, h]) | (refine A_draw_of [] [] (by kernel_rfl) ?_ <;> simp only [go_sem, Nat.reduceEqDiff, Nat.reduceLT, Nat.reduceLeDiff, Nat.reduceAdd, Nat.reduceSub, Nat.reduceMul, Nat.reduceBEq, ↓reduceIte, reduceCtorEq, Int.reduceLT, Int.reduceToNat, UInt8.reduceToNat, Int.reduceLE, Int.reduceBEq, Int.reduceBNe, Int.reduceAdd, Int.reduceSub, Int.reduceMul, Int.reduceNeg, cImg14_at, spTrue_mv, spTrue_fn, g0, g1]))
    all_goals (first | refine fin_ret ?_ | refine fin_normal ?_)
    all_goals simp only [resOf, Try.results5, Try.ntmps5, go_sem, Nat.reduceEqDiff, Nat.reduceLT, Nat.reduceLeDiff, Nat.reduceAdd, Nat.reduceSub, Nat.reduceMul, Nat.reduceBEq, ↓reduceIte, reduceCtorEq, Int.reduceLT, Int.reduceToNat, UInt8.reduceToNat, Int.reduceLE, Int.reduceBEq, Int.reduceBNe, Int.reduceAdd, Int.reduceSub, Int.reduceMul, Int.reduceNeg]
  have g1 : decide (60 < n) = false := by simp; omega
  by_cases c2 : a < 0
  · have g2 : decide (a < 0) = true := by simp [c2]
    simp only [go_sem, Nat.reduceEqDiff, Nat.reduceLT, Nat.reduceLeDiff, Nat.reduceAdd, Nat.reduceSub, Nat.reduceMul, Nat.reduceBEq, ↓reduceIte, reduceCtorEq, Int.reduceLT, Int.reduceToNat, UInt8.reduceToNat, Int.reduceLE, Int.reduceBEq, Int.reduceBNe, Int.reduceAdd, Int.reduceSub, Int.reduceMul, Int.reduceNeg, cImg14_at, spTrue_mv, spTrue_fn, g0, g1, g2]
    repeat' (first | (refine AG_of ?_ ?_ <;> intro h <;> simp only [go_sem, Nat.reduceEqDiff, Nat.reduceLT, Nat.reduceLeDiff, Nat.reduceAdd, Nat.reduceSub, Nat.reduceMul, Nat.reduceBEq, ↓reduceIte, reduceCtorEq, Int.reduceLT, Int.reduceToNat, UInt8.reduceToNat, Int.reduceLE, Int.reduceBEq, Int.reduceBNe, Int.reduceAdd, Int.reduceSub, Int.reduceMul, Int.reduceNeg, cImg14_at, spTrue_mv, spTrue_fn, g0, g1, g2, h]) | (refine AB_of ?_ ?_ <;> intro h <;> simp only [go_sem, Nat.reduceEqDiff, Nat.reduceLT, Nat.reduceLeDiff, Nat.reduceAdd, Nat.reduceSub, Nat.reduceMul, Nat.reduceBEq, ↓reduceIte, reduceCtorEq, Int.reduceLT, Int.reduceToNat, UInt8.reduceToNat, Int.reduceLE, Int.reduceBEq, Int.reduceBNe, Int.reduceAdd, Int.reduceSub, Int.reduceMul, Int.reduceNeg, cImg14_at, spTrue_mv, spTrue_fn, g0, g1, g2, h]) | (refine A_draw_of [] [] (by kernel_rfl) ?_ <;> simp only [go_sem, Nat.reduceEqDiff, Nat.reduceLT, Nat.reduceLeDiff, Nat.reduceAdd, Nat.reduceSub, Nat.reduceMul, Nat.reduceBEq, ↓reduceIte, reduceCtorEq, Int.reduceLT, Int.reduceToNat, UInt8.reduceToNat, Int.reduceLE, Int.reduceBEq, Int.reduceBNe, Int.reduceAdd, Int.reduceSub, Int.reduceMul, Int.reduceNeg, cImg14_at, spTrue_mv, spTrue_fn, g0, g1, g2]))
    all_goals (first | refine fin_ret ?_ | refine fin_normal ?_)
    all_goals simp only [resOf, Try.results5, Try.ntmps5, go_sem, Nat.reduceEqDiff, Nat.reduceLT, Nat.reduceLeDiff, Nat.reduceAdd, Nat.reduceSub, Nat.reduceMul, Nat.reduceBEq, ↓reduceIte, reduceCtorEq, Int.reduceLT, Int.reduceToNat, UInt8.reduceToNat, Int.reduceLE, Int.reduceBEq, Int.reduceBNe, Int.reduceAdd, Int.reduceSub, Int.reduceMul, Int.reduceNeg]
  have g2 : decide (a < 0) = false := by simp; omega
  by_cases c3 : n ≤ a
  · have g3 : decide (n ≤ a) = true := by simp [c3]
    simp only [go_sem, Nat.reduceEqDiff, Nat.reduceLT, Nat.reduceLeDiff, Nat.reduceAdd, Nat.reduceSub, Nat.reduceMul, Nat.reduceBEq, ↓reduceIte, reduceCtorEq, Int.reduceLT, Int.reduceToNat, UInt8.reduceToNat, Int.reduceLE, Int.reduceBEq, Int.reduceBNe, Int.reduceAdd, Int.reduceSub, Int.reduceMul, Int.reduceNeg, cImg14_at, spTrue_mv, spTrue_fn, g0, g1, g2, g3]
    repeat' (first | (refine AG_of ?_ ?_ <;> intro h <;> simp only [go_sem, Nat.reduceEqDiff, Nat.reduceLT, Nat.reduceLeDiff, Nat.reduceAdd, Nat.reduceSub, Nat.reduceMul, Nat.reduceBEq, ↓reduceIte, reduceCtorEq, Int.reduceLT, Int.reduceToNat, UInt8.reduceToNat, Int.reduceLE, Int.reduceBEq, Int.reduceBNe, Int.reduceAdd, Int.reduceSub, Int.reduceMul, Int.reduceNeg, cImg14_at, spTrue_mv, spTrue_fn, g0, g1, g2, g3, h]) | (refine AB_of ?_ ?_ <;> intro h <;> simp only [go_sem, Nat.reduceEqDiff, Nat.reduceLT, Nat.reduceLeDiff, Nat.reduceAdd, Nat.reduceSub, Nat.reduceMul, Nat.reduceBEq, ↓reduceIte, reduceCtorEq, Int.reduceLT, Int.reduceToNat, UInt8.reduceToNat, Int.reduceLE, Int.reduceBEq, Int.reduceBNe, Int.reduceAdd, Int.reduceSub, Int.reduceMul, Int.reduceNeg, cImg14_at, spTrue_mv, spTrue_fn, g0, g1, g2, g3, h]) | (refine A_draw_of [] [] (by kernel_rfl) ?_ <;> simp only [go_sem, Nat.reduceEqDiff, Nat.reduceLT, Nat.reduceLeDiff, Nat.reduceAdd, Nat.reduceSub, Nat.reduceMul, Nat.reduceBEq, ↓reduceIte, reduceCtorEq, Int.reduceLT, Int.reduceToNat, UInt8.reduceToNat, Int.reduceLE, Int.reduceBEq, Int.reduceBNe, Int.reduceAdd, Int.reduceSub, Int.reduceMul, Int.reduceNeg, cImg14_at, spTrue_mv, spTrue_fn, g0, g1, g2, g3]))
    all_goals (first | refine fin_ret ?_ | refine fin_normal ?_)
    all_goals simp only [resOf, Try.results5, Try.ntmps5, go_sem, Nat.reduceEqDiff, Nat.reduceLT, Nat.reduceLeDiff, Nat.reduceAdd, Nat.reduceSub, Nat.reduceMul, Nat.reduceBEq, ↓reduceIte, reduceCtorEq, Int.reduceLT, Int.reduceToNat, UInt8.reduceToNat, Int.reduceLE, Int.reduceBEq, Int.reduceBNe, Int.reduceAdd, Int.reduceSub, Int.reduceMul, Int.reduceNeg]
  have g3 : decide (n ≤ a) = false := by simp; omega
  by_cases c4 : imm < -100
  · have g4 : decide (imm < -100) = true := by simp [c4]
    simp only [go_sem, Nat.reduceEqDiff, Nat.reduceLT, Nat.reduceLeDiff, Nat.reduceAdd, Nat.reduceSub, Nat.reduceMul, Nat.reduceBEq, ↓reduceIte, reduceCtorEq, Int.reduceLT, Int.reduceToNat, UInt8.reduceToNat, Int.reduceLE, Int.reduceBEq, Int.reduceBNe, Int.reduceAdd, Int.reduceSub, Int.reduceMul, Int.reduceNeg, cImg14_at, spTrue_mv, spTrue_fn, g0, g1, g2, g3, g4]
    repeat' (first | (refine AG_of ?_ ?_ <;> intro h <;> simp only [go_sem, Nat.reduceEqDiff, Nat.reduceLT, Nat.reduceLeDiff, Nat.reduceAdd, Nat.reduceSub, Nat.reduceMul, Nat.reduceBEq, ↓reduceIte, reduceCtorEq, Int.reduceLT, Int.reduceToNat, UInt8.reduceToNat, Int.reduceLE, Int.reduceBEq, Int.reduceBNe, Int.reduceAdd, Int.reduceSub, Int.reduceMul, Int.reduceNeg, cImg14_at, spTrue_mv, spTrue_fn, g0, g1, g2, g3, g4, h]) | (refine AB_of ?_ ?_ <;> intro h <;> simp only [go_sem, Nat.reduceEqDiff, Nat.reduceLT, Nat.reduceLeDiff, Nat.reduceAdd, Nat.reduceSub, Nat.reduceMul, Nat.reduceBEq, ↓reduceIte, reduceCtorEq, Int.reduceLT, Int.reduceToNat, UInt8.reduceToNat, Int.reduceLE, Int.reduceBEq, Int.reduceBNe, Int.reduceAdd, Int.reduceSub, Int.reduceMul, Int.reduceNeg, cImg14_at, spTrue_mv, spTrue_fn, g0, g1, g2, g3, g4, h]) | (refine A_draw_of [] [] (by kernel_rfl) ?_ <;> simp only [go_sem, Nat.reduceEqDiff, Nat.reduceLT, Nat.reduceLeDiff, Nat.reduceAdd, Nat.reduceSub, Nat.reduceMul, Nat.reduceBEq, ↓reduceIte, reduceCtorEq, Int.reduceLT, Int.reduceToNat, UInt8.reduceToNat, Int.reduceLE, Int.reduceBEq, Int.reduceBNe, Int.reduceAdd, Int.reduceSub, Int.reduceMul, Int.reduceNeg, cImg14_at, spTrue_mv, spTrue_fn, g0, g1, g2, g3, g4]))
    all_goals (first | refine fin_ret ?_ | refine fin_normal ?_)
    all_goals simp only [resOf, Try.results5, Try.ntmps5, go_sem, Nat.reduceEqDiff, Nat.reduceLT, Nat.reduceLeDiff, Nat.reduceAdd, Nat.reduceSub, Nat.reduceMul, Nat.reduceBEq, ↓reduceIte, reduceCtorEq, Int.reduceLT, Int.reduceToNat, UInt8.reduceToNat, Int.reduceLE, Int.reduceBEq, Int.reduceBNe, Int.reduceAdd, Int.reduceSub, Int.reduceMul, Int.reduceNeg]
  have g4 : decide (imm < -100) = false := by simp; omega
  by_cases c5 : 100 < imm
  · have g5 : decide (100 < imm) = true := by simp [c5]
    simp only [go_sem, Nat.reduceEqDiff, Nat.reduceLT, Nat.reduceLeDiff, Nat.reduceAdd, Nat.reduceSub, Nat.reduceMul, Nat.reduceBEq, ↓reduceIte, reduceCtorEq, Int.reduceLT, Int.reduceToNat, UInt8.reduceToNat, Int.reduceLE, Int.reduceBEq, Int.reduceBNe, Int.reduceAdd, Int.reduceSub, Int.reduceMul, Int.reduceNeg, cImg14_at, spTrue_mv, spTrue_fn, g0, g1, g2, g3, g4, g5]
    repeat' (first | (refine AG_of ?_ ?_ <;> intro h <;> simp only [go_sem, Nat.reduceEqDiff, Nat.reduceLT, Nat.reduceLeDiff, Nat.reduceAdd, Nat.reduceSub, Nat.reduceMul, Nat.reduceBEq, ↓reduceIte, reduceCtorEq, Int.reduceLT, Int.reduceToNat, UInt8.reduceToNat, Int.reduceLE, Int.reduceBEq, Int.reduceBNe, Int.reduceAdd, Int.reduceSub, Int.reduceMul, Int.reduceNeg, cImg14_at, spTrue_mv, spTrue_fn, g0, g1, g2, g3, g4, g5, h]) | (refine AB_of ?_ ?_ <;> intro h <;> simp only [go_sem, Nat.reduceEqDiff, Nat.reduceLT, Nat.reduceLeDiff, Nat.reduceAdd, Nat.reduceSub, Nat.reduceMul, Nat.reduceBEq, ↓reduceIte, reduceCtorEq, Int.reduceLT, Int.reduceToNat, UInt8.reduceToNat, Int.reduceLE, Int.reduceBEq, Int.reduceBNe, Int.reduceAdd, Int.reduceSub, Int.reduceMul, Int.reduceNeg, cImg14_at, spTrue_mv, spTrue_fn, g0, g1, g2, g3, g4, g5, h]) | (refine A_draw_of [] [] (by kernel_rfl) ?_ <;> simp only [go_sem, Nat.reduceEqDiff, Nat.reduceLT, Nat.reduceLeDiff, Nat.reduceAdd, Nat.reduceSub, Nat.reduceMul, Nat.reduceBEq, ↓reduceIte, reduceCtorEq, Int.reduceLT, Int.reduceToNat, UInt8.reduceToNat, Int.reduceLE, Int.reduceBEq, Int.reduceBNe, Int.reduceAdd, Int.reduceSub, Int.reduceMul, Int.reduceNeg, cImg14_at, spTrue_mv, spTrue_fn, g0, g1, g2, g3, g4, g5]))
    all_goals (first | refine fin_ret ?_ | refine fin_normal ?_)
    all_goals simp only [resOf, Try.results5, Try.ntmps5, go_sem, Nat.reduceEqDiff, Nat.reduceLT, Nat.reduceLeDiff, Nat.reduceAdd, Nat.reduceSub, Nat.reduceMul, Nat.reduceBEq, ↓reduceIte, reduceCtorEq, Int.reduceLT, Int.reduceToNat, UInt8.reduceToNat, Int.reduceLE, Int.reduceBEq, Int.reduceBNe, Int.reduceAdd, Int.reduceSub, Int.reduceMul, Int.reduceNeg]
  have g5 : decide (100 < imm) = false := by simp; omega
  by_cases c6 : op < 34
  · have g6 : decide (op < 34) = true := by simp [c6]
    simp only [go_sem, Nat.reduceEqDiff, Nat.reduceLT, Nat.reduceLeDiff, Nat.reduceAdd, Nat.reduceSub, Nat.reduceMul, Nat.reduceBEq, ↓reduceIte, reduceCtorEq, Int.reduceLT, Int.reduceToNat, UInt8.reduceToNat, Int.reduceLE, Int.reduceBEq, Int.reduceBNe, Int.reduceAdd, Int.reduceSub, Int.reduceMul, Int.reduceNeg, cImg14_at, spTrue_mv, spTrue_fn, g0, g1, g2, g3, g4, g5, g6]
    repeat' (first | (refine AG_of ?_ ?_ <;> intro h <;> simp only [go_sem, Nat.reduceEqDiff, Nat.reduceLT, Nat.reduceLeDiff, Nat.reduceAdd, Nat.reduceSub, Nat.reduceMul, Nat.reduceBEq, ↓reduceIte, reduceCtorEq, Int.reduceLT, Int.reduceToNat, UInt8.reduceToNat, Int.reduceLE, Int.reduceBEq, Int.reduceBNe, Int.reduceAdd, Int.reduceSub, Int.reduceMul, Int.reduceNeg, cImg14_at, spTrue_mv, spTrue_fn, g0, g1, g2, g3, g4, g5, g6, h]) | (refine AB_of ?_ ?_ <;> intro h <;> simp only [go_sem, Nat.reduceEqDiff, Nat.reduceLT, Nat.reduceLeDiff, Nat.reduceAdd, Nat.reduceSub, Nat.reduceMul, Nat.reduceBEq, ↓reduceIte, reduceCtorEq, Int.reduceLT, Int.reduceToNat, UInt8.reduceToNat, Int.reduceLE, Int.reduceBEq, Int.reduceBNe, Int.reduceAdd, Int.reduceSub, Int.reduceMul, Int.reduceNeg, cImg14_at, spTrue_mv, spTrue_fn, g0, g1, g2, g3, g4, g5, g6, h]) | (refine A_draw_of [] [] (by kernel_rfl) ?_ <;> simp only [go_sem, Nat.reduceEqDiff, Nat.reduceLT, Nat.reduceLeDiff, Nat.reduceAdd, Nat.reduceSub, Nat.reduceMul, Nat.reduceBEq, ↓reduceIte, reduceCtorEq, Int.reduceLT, Int.reduceToNat, UInt8.reduceToNat, Int.reduceLE, Int.reduceBEq, Int.reduceBNe, Int.reduceAdd, Int.reduceSub, Int.reduceMul, Int.reduceNeg, cImg14_at, spTrue_mv, spTrue_fn, g0, g1, g2, g3, g4, g5, g6]))
    all_goals (first | refine fin_ret ?_ | refine fin_normal ?_)
    all_goals simp only [resOf, Try.results5, Try.ntmps5, go_sem, Nat.reduceEqDiff, Nat.reduceLT, Nat.reduceLeDiff, Nat.reduceAdd, Nat.reduceSub, Nat.reduceMul, Nat.reduceBEq, ↓reduceIte, reduceCtorEq, Int.reduceLT, Int.reduceToNat, UInt8.reduceToNat, Int.reduceLE, Int.reduceBEq, Int.reduceBNe, Int.reduceAdd, Int.reduceSub, Int.reduceMul, Int.reduceNeg]
  have g6 : decide (op < 34) = false := by simp; omega
  by_cases c7 : 40 < op
  · have g7 : decide (40 < op) = true := by simp [c7]
    simp only [go_sem, Nat.reduceEqDiff, Nat.reduceLT, Nat.reduceLeDiff, Nat.reduceAdd, Nat.reduceSub, Nat.reduceMul, Nat.reduceBEq, ↓reduceIte, reduceCtorEq, Int.reduceLT, Int.reduceToNat, UInt8.reduceToNat, Int.reduceLE, Int.reduceBEq, Int.reduceBNe, Int.reduceAdd, Int.reduceSub, Int.reduceMul, Int.reduceNeg, cImg14_at, spTrue_mv, spTrue_fn, g0, g1, g2, g3, g4, g5, g6, g7]
    repeat' (first | (refine AG_of ?_ ?_ <;> intro h <;> simp only [go_sem, Nat.reduceEqDiff, Nat.reduceLT, Nat.reduceLeDiff, Nat.reduceAdd, Nat.reduceSub, Nat.reduceMul, Nat.reduceBEq, ↓reduceIte, reduceCtorEq, Int.reduceLT, Int.reduceToNat, UInt8.reduceToNat, Int.reduceLE, Int.reduceBEq, Int.reduceBNe, Int.reduceAdd, Int.reduceSub, Int.reduceMul, Int.reduceNeg, cImg14_at, spTrue_mv, spTrue_fn, g0, g1, g2, g3, g4, g5, g6, g7, h]) | (refine AB_of ?_ ?_ <;> intro h <;> simp only [go_sem, Nat.reduceEqDiff, Nat.reduceLT, Nat.reduceLeDiff, Nat.reduceAdd, Nat.reduceSub, Nat.reduceMul, Nat.reduceBEq, ↓reduceIte, reduceCtorEq, Int.reduceLT, Int.reduceToNat, UInt8.reduceToNat, Int.reduceLE, Int.reduceBEq, Int.reduceBNe, Int.reduceAdd, Int.reduceSub, Int.reduceMul, Int.reduceNeg, cImg14_at, spTrue_mv, spTrue_fn, g0, g1, g2, g3, g4, g5, g6, g7, h]) | (refine A_draw_of [] [] (by kernel_rfl) ?_ <;> simp only [go_sem, Nat.reduceEqDiff, Nat.reduceLT, Nat.reduceLeDiff, Nat.reduceAdd, Nat.reduceSub, Nat.reduceMul, Nat.reduceBEq, ↓reduceIte, reduceCtorEq, Int.reduceLT, Int.reduceToNat, UInt8.reduceToNat, Int.reduceLE, Int.reduceBEq, Int.reduceBNe, Int.reduceAdd, Int.reduceSub, Int.reduceMul, Int.reduceNeg, cImg14_at, spTrue_mv, spTrue_fn, g0, g1, g2, g3, g4, g5, g6, g7]))
    all_goals (first | refine fin_ret ?_ | refine fin_normal ?_)
    all_goals simp only [resOf, Try.results5, Try.ntmps5, go_sem, Nat.reduceEqDiff, Nat.reduceLT, Nat.reduceLeDiff, Nat.reduceAdd, Nat.reduceSub, Nat.reduceMul, Nat.reduceBEq, ↓reduceIte, reduceCtorEq, Int.reduceLT, Int.reduceToNat, UInt8.reduceToNat, Int.reduceLE, Int.reduceBEq, Int.reduceBNe, Int.reduceAdd, Int.reduceSub, Int.reduceMul, Int.reduceNeg]
  have g7 : decide (40 < op) = false := by simp; omega
  obtain ⟨N, rfl⟩ : ∃ N : Nat, n = N := ⟨n.toNat, by omega⟩
  obtain ⟨j, rfl⟩ : ∃ j : Nat, a = j := ⟨a.toNat, by omega⟩
  simp only [go_sem, Nat.reduceEqDiff, Nat.reduceLT, Nat.reduceLeDiff, Nat.reduceAdd, Nat.reduceSub, Nat.reduceMul, Nat.reduceBEq, ↓reduceIte, reduceCtorEq, Int.reduceLT, Int.reduceToNat, UInt8.reduceToNat, Int.reduceLE, Int.reduceBEq, Int.reduceBNe, Int.reduceAdd, Int.reduceSub, Int.reduceMul, Int.reduceNeg, cImg14_at, spTrue_mv, spTrue_fn, g0, g1, g2, g3, g4, g5, g6, g7]
  repeat' (first | (refine AG_of ?_ ?_ <;> intro h <;> simp only [go_sem, Nat.reduceEqDiff, Nat.reduceLT, Nat.reduceLeDiff, Nat.reduceAdd, Nat.reduceSub, Nat.reduceMul, Nat.reduceBEq, ↓reduceIte, reduceCtorEq, Int.reduceLT, Int.reduceToNat, UInt8.reduceToNat, Int.reduceLE, Int.reduceBEq, Int.reduceBNe, Int.reduceAdd, Int.reduceSub, Int.reduceMul, Int.reduceNeg, cImg14_at, spTrue_mv, spTrue_fn, g0, g1, g2, g3, g4, g5, g6, g7, h]) | (refine AB_of ?_ ?_ <;> intro h <;> simp only [go_sem, Nat.reduceEqDiff, Nat.reduceLT, Nat.reduceLeDiff, Nat.reduceAdd, Nat.reduceSub, Nat.reduceMul, Nat.reduceBEq, ↓reduceIte, reduceCtorEq, Int.reduceLT, Int.reduceToNat, UInt8.reduceToNat, Int.reduceLE, Int.reduceBEq, Int.reduceBNe, Int.reduceAdd, Int.reduceSub, Int.reduceMul, Int.reduceNeg, cImg14_at, spTrue_mv, spTrue_fn, g0, g1, g2, g3, g4, g5, g6, g7, h]))
  refine A_loop (tgtI N j imm op) (fun s => N - (numOf (s.env 11)).toNat) ?_ ?_
  · refine ⟨by simp [upd, init, V.unfr], by simp [upd, init, V.unfr], by simp [upd, init, V.unfr], by simp [upd, init, V.unfr], by simp [upd], 0, by simp [upd], by omega, .inl ⟨rfl, by simp [upd, init]⟩⟩
  intro s hs
  obtain ⟨e0, e1, e2, e3, e10, k, e11, hk, hbox⟩ := hs
  rcases Nat.lt_or_ge k N with hlt | hge
  · have q0 : decide ((k : Int) < N) = true := by simp; omega
    have n2 : IntKind.i64.wrap ((k : Int) + 1) = (k + 1 : Nat) := by rw [w_i64 (by omega) (by omega)]; omega
    have f1 : (k + 1) * 40 ≤ 140737488355328 := by omega
    rcases hbox with ⟨hk0, t10⟩ | ⟨v, t10, t60⟩
    ·
      simp only [go_sem, Nat.reduceEqDiff, Nat.reduceLT, Nat.reduceLeDiff, Nat.reduceAdd, Nat.reduceSub, Nat.reduceMul, Nat.reduceBEq, ↓reduceIte, reduceCtorEq, Int.reduceLT, Int.reduceToNat, UInt8.reduceToNat, Int.reduceLE, Int.reduceBEq, Int.reduceBNe, Int.reduceAdd, Int.reduceSub, Int.reduceMul, Int.reduceNeg, e0, e1, e2, e3, e10, e11, t10, q0, n2, f1, List.length_replicate]
      repeat' (first | (refine AG_of ?_ ?_ <;> intro h <;> simp only [go_sem, Nat.reduceEqDiff, Nat.reduceLT, Nat.reduceLeDiff, Nat.reduceAdd, Nat.reduceSub, Nat.reduceMul, Nat.reduceBEq, ↓reduceIte, reduceCtorEq, Int.reduceLT, Int.reduceToNat, UInt8.reduceToNat, Int.reduceLE, Int.reduceBEq, Int.reduceBNe, Int.reduceAdd, Int.reduceSub, Int.reduceMul, Int.reduceNeg, e0, e1, e2, e3, e10, e11, t10, q0, n2, f1, List.length_replicate, h]) | (refine AB_of ?_ ?_ <;> intro h <;> simp only [go_sem, Nat.reduceEqDiff, Nat.reduceLT, Nat.reduceLeDiff, Nat.reduceAdd, Nat.reduceSub, Nat.reduceMul, Nat.reduceBEq, ↓reduceIte, reduceCtorEq, Int.reduceLT, Int.reduceToNat, UInt8.reduceToNat, Int.reduceLE, Int.reduceBEq, Int.reduceBNe, Int.reduceAdd, Int.reduceSub, Int.reduceMul, Int.reduceNeg, e0, e1, e2, e3, e10, e11, t10, q0, n2, f1, List.length_replicate, h]) | (refine A_draw_of [] [] (by kernel_rfl) ?_ <;> simp only [go_sem, Nat.reduceEqDiff, Nat.reduceLT, Nat.reduceLeDiff, Nat.reduceAdd, Nat.reduceSub, Nat.reduceMul, Nat.reduceBEq, ↓reduceIte, reduceCtorEq, Int.reduceLT, Int.reduceToNat, UInt8.reduceToNat, Int.reduceLE, Int.reduceBEq, Int.reduceBNe, Int.reduceAdd, Int.reduceSub, Int.reduceMul, Int.reduceNeg, e0, e1, e2, e3, e10, e11, t10, q0, n2, f1, List.length_replicate]))
      refine ⟨⟨by simp [upd, e0], by simp [upd, e1], by simp [upd, e2], by simp [upd, e3], by simp [upd, e10], k + 1, by simp [upd], by omega, .inr ⟨(s.st 60).ver + 1, by simp [upd, hk0], ?_⟩⟩, by simp [upd, numOf, e11]; omega⟩
      subst hk0
      simp [upd, haltI, Ins.v]
    ·
      simp only [go_sem, Nat.reduceEqDiff, Nat.reduceLT, Nat.reduceLeDiff, Nat.reduceAdd, Nat.reduceSub, Nat.reduceMul, Nat.reduceBEq, ↓reduceIte, reduceCtorEq, Int.reduceLT, Int.reduceToNat, UInt8.reduceToNat, Int.reduceLE, Int.reduceBEq, Int.reduceBNe, Int.reduceAdd, Int.reduceSub, Int.reduceMul, Int.reduceNeg, e0, e1, e2, e3, e10, e11, t10, t60, q0, n2, f1, List.length_replicate]
      repeat' (first | (refine AG_of ?_ ?_ <;> intro h <;> simp only [go_sem, Nat.reduceEqDiff, Nat.reduceLT, Nat.reduceLeDiff, Nat.reduceAdd, Nat.reduceSub, Nat.reduceMul, Nat.reduceBEq, ↓reduceIte, reduceCtorEq, Int.reduceLT, Int.reduceToNat, UInt8.reduceToNat, Int.reduceLE, Int.reduceBEq, Int.reduceBNe, Int.reduceAdd, Int.reduceSub, Int.reduceMul, Int.reduceNeg, e0, e1, e2, e3, e10, e11, t10, t60, q0, n2, f1, List.length_replicate, h]) | (refine AB_of ?_ ?_ <;> intro h <;> simp only [go_sem, Nat.reduceEqDiff, Nat.reduceLT, Nat.reduceLeDiff, Nat.reduceAdd, Nat.reduceSub, Nat.reduceMul, Nat.reduceBEq, ↓reduceIte, reduceCtorEq, Int.reduceLT, Int.reduceToNat, UInt8.reduceToNat, Int.reduceLE, Int.reduceBEq, Int.reduceBNe, Int.reduceAdd, Int.reduceSub, Int.reduceMul, Int.reduceNeg, e0, e1, e2, e3, e10, e11, t10, t60, q0, n2, f1, List.length_replicate, h]) | (refine A_draw_of [] [] (by kernel_rfl) ?_ <;> simp only [go_sem, Nat.reduceEqDiff, Nat.reduceLT, Nat.reduceLeDiff, Nat.reduceAdd, Nat.reduceSub, Nat.reduceMul, Nat.reduceBEq, ↓reduceIte, reduceCtorEq, Int.reduceLT, Int.reduceToNat, UInt8.reduceToNat, Int.reduceLE, Int.reduceBEq, Int.reduceBNe, Int.reduceAdd, Int.reduceSub, Int.reduceMul, Int.reduceNeg, e0, e1, e2, e3, e10, e11, t10, t60, q0, n2, f1, List.length_replicate]))
      refine ⟨⟨by simp [upd, e0], by simp [upd, e1], by simp [upd, e2], by simp [upd, e3], by simp [upd, e10], k + 1, by simp [upd], by omega, .inr ⟨v + 1, by simp [upd], ?_⟩⟩, by simp [upd, numOf, e11]; omega⟩
      simp [upd, haltI, Ins.v, List.replicate_succ']
  · have hkN : k = N := by omega
    subst hkN
    have q0 : decide ((k : Int) < k) = false := by simp
    rcases hbox with ⟨hk0, _⟩ | ⟨v, t10, t60⟩
    · omega
    have hj : j < k := by omega
    have z1 := Int.natCast_nonneg j
    have hjI : (j : Int) < (k : Int) := by omega
    have n3 : IntKind.i64.wrap ((j : Int) + imm) = j + imm := w_i64 (by omega) (by omega)
    have lk : ((jmpP k j op imm).code.map Ins.v).length = k := by simp [jmpP]
    obtain ⟨c, hC⟩ : ∃ c, (jmpP k j op imm).code.map Ins.v = c := ⟨_, rfl⟩
    rw [hC] at lk
    have hget : (List.replicate k haltI.v)[j]? = some (.agg [.s (.int .i64 41), .s (.int .i64 0), .s (.int .i64 0), .s (.int .i64 0), .s (.int .i64 0)]) := by
      rw [List.getElem?_replicate, if_pos hj]; rfl
    have hset : (List.replicate k haltI.v).set j (.agg [.s (.int .i64 op), .s (.int .i64 0), .s (.int .i64 0), .s (.int .i64 0), .s (.int .i64 imm)]) = c := by
      rw [← hC]; simp [jmpP, List.map_set, Ins.v]
    have ht := targs_v (p := jmpP k j op imm) (by rw [jmp_len]; omega)
    have hr := rightP_v (jmpP k j op imm)
    have hb := bytesL_v (jmpP k j op imm)
    have hT := jmp_targs (imm := imm) hj (by omega : 34 ≤ op) (by omega)
    have hR := jmp_right (imm := imm) hj (by omega) (by omega : 34 ≤ op) (by omega) (by omega) (by omega)
    have hL := imgB_len (jmpP k j op imm)
    obtain ⟨L, hLe⟩ : ∃ L, (imgB (jmpP k j op imm)).length = L := ⟨_, rfl⟩
    have g9 : decide (0 < (L : Int)) = true := by simp; omega
    have lL : ((imgB (jmpP k j op imm)).map u8v).length = L := by simp [hLe]
    rw [hT] at hR
    have hp : prgOf (.agg [.lst false 5 c, .s (.int .i64 0), .s (.slice none 0 0)]) = some (jmpP k j op imm) := by
      rw [← hC]
      have := mapM_of (f := insOf) (g := Ins.v) (fun _ => rfl) (jmpP k j op imm).code
      simp only [prgOf, lOf, if_true, Option.bind_some, this]
      rfl
    have ht : spTargets.fn [.agg [.lst false 5 c, .s (.int .i64 0), .s (.slice none 0 0)]] = some (.s (.int .i64 (if targsB (jmpP k j op imm) then 4 else 0))) := by
      simp only [spTargets, hp, Option.bind_some, if_pos (show (jmpP k j op imm).code.length ≤ 1000000000 by rw [jmp_len]; omega)]
      rfl
    have hr : spRightP.fn [.agg [.lst false 5 c, .s (.int .i64 0), .s (.slice none 0 0)]] = some (.s (.bool (rightP (jmpP k j op imm)))) := by
      simp only [spRightP, hp, Option.bind_some]
    have hb : spBytesL.fn [.agg [.lst false 5 c, .s (.int .i64 0), .s (.slice none 0 0)]] = some (if rightP (jmpP k j op imm) = true then .lst true 1 ((imgB (jmpP k j op imm)).map u8v) else .s (.slice none 0 0)) := by
      simp only [spBytesL, spBytes, hp, Option.bind_some, Option.map_some]
      split <;> rfl
    rw [hT] at ht
    rw [hR] at hr hb
    have z3 : ((4 : Int) == 0) = false := rfl
    by_cases m0 : 0 ≤ (j : Int) + imm
    case neg =>
      have p0 : decide (0 ≤ (j : Int) + imm) = false := by simp [m0]
      simp only [p0, Bool.false_and, Bool.not_false, Bool.not_true, if_true, Bool.false_eq_true, if_false] at ht hr hb
      simp only [go_sem, Nat.reduceEqDiff, Nat.reduceLT, Nat.reduceLeDiff, Nat.reduceAdd, Nat.reduceSub, Nat.reduceMul, Nat.reduceBEq, ↓reduceIte, reduceCtorEq, Int.reduceLT, Int.reduceToNat, UInt8.reduceToNat, Int.reduceLE, Int.reduceBEq, Int.reduceBNe, Int.reduceAdd, Int.reduceSub, Int.reduceMul, Int.reduceNeg, e0, e1, e2, e3, e10, e11, t10, t60, q0, n3, z1, hj, hjI, hget, lk, hset, p0, cImg14_at, spTargets_mv, ht, spRightP_mv, hr, spBytesL_mv, hb, spNum_mv, spNum_fn, z3, List.length_replicate, Int.toNat_natCast]
      repeat' (first | (refine AG_of ?_ ?_ <;> intro h <;> simp only [go_sem, Nat.reduceEqDiff, Nat.reduceLT, Nat.reduceLeDiff, Nat.reduceAdd, Nat.reduceSub, Nat.reduceMul, Nat.reduceBEq, ↓reduceIte, reduceCtorEq, Int.reduceLT, Int.reduceToNat, UInt8.reduceToNat, Int.reduceLE, Int.reduceBEq, Int.reduceBNe, Int.reduceAdd, Int.reduceSub, Int.reduceMul, Int.reduceNeg, e0, e1, e2, e3, e10, e11, t10, t60, q0, n3, z1, hj, hjI, hget, lk, hset, p0, cImg14_at, spTargets_mv, ht, spRightP_mv, hr, spBytesL_mv, hb, spNum_mv, spNum_fn, z3, List.length_replicate, Int.toNat_natCast, h]) | (refine AB_of ?_ ?_ <;> intro h <;> simp only [go_sem, Nat.reduceEqDiff, Nat.reduceLT, Nat.reduceLeDiff, Nat.reduceAdd, Nat.reduceSub, Nat.reduceMul, Nat.reduceBEq, ↓reduceIte, reduceCtorEq, Int.reduceLT, Int.reduceToNat, UInt8.reduceToNat, Int.reduceLE, Int.reduceBEq, Int.reduceBNe, Int.reduceAdd, Int.reduceSub, Int.reduceMul, Int.reduceNeg, e0, e1, e2, e3, e10, e11, t10, t60, q0, n3, z1, hj, hjI, hget, lk, hset, p0, cImg14_at, spTargets_mv, ht, spRightP_mv, hr, spBytesL_mv, hb, spNum_mv, spNum_fn, z3, List.length_replicate, Int.toNat_natCast, h]) | (refine A_draw_of [] [] (by kernel_rfl) ?_ <;> simp only [go_sem, Nat.reduceEqDiff, Nat.reduceLT, Nat.reduceLeDiff, Nat.reduceAdd, Nat.reduceSub, Nat.reduceMul, Nat.reduceBEq, ↓reduceIte, reduceCtorEq, Int.reduceLT, Int.reduceToNat, UInt8.reduceToNat, Int.reduceLE, Int.reduceBEq, Int.reduceBNe, Int.reduceAdd, Int.reduceSub, Int.reduceMul, Int.reduceNeg, e0, e1, e2, e3, e10, e11, t10, t60, q0, n3, z1, hj, hjI, hget, lk, hset, p0, cImg14_at, spTargets_mv, ht, spRightP_mv, hr, spBytesL_mv, hb, spNum_mv, spNum_fn, z3, List.length_replicate, Int.toNat_natCast]))
      all_goals (first | refine fin_ret ?_ | refine fin_normal ?_)
      all_goals simp only [resOf, Try.results5, Try.ntmps5, go_sem, Nat.reduceEqDiff, Nat.reduceLT, Nat.reduceLeDiff, Nat.reduceAdd, Nat.reduceSub, Nat.reduceMul, Nat.reduceBEq, ↓reduceIte, reduceCtorEq, Int.reduceLT, Int.reduceToNat, UInt8.reduceToNat, Int.reduceLE, Int.reduceBEq, Int.reduceBNe, Int.reduceAdd, Int.reduceSub, Int.reduceMul, Int.reduceNeg]
    have p0 : decide (0 ≤ (j : Int) + imm) = true := by simp [m0]
    by_cases m1 : (j : Int) + imm < k
    case neg =>
      have p1 : decide ((j : Int) + imm < k) = false := by simp; omega
      simp only [p0, p1, Bool.and_false, Bool.not_false, Bool.not_true, if_true, Bool.false_eq_true, if_false] at ht hr hb
      simp only [go_sem, Nat.reduceEqDiff, Nat.reduceLT, Nat.reduceLeDiff, Nat.reduceAdd, Nat.reduceSub, Nat.reduceMul, Nat.reduceBEq, ↓reduceIte, reduceCtorEq, Int.reduceLT, Int.reduceToNat, UInt8.reduceToNat, Int.reduceLE, Int.reduceBEq, Int.reduceBNe, Int.reduceAdd, Int.reduceSub, Int.reduceMul, Int.reduceNeg, e0, e1, e2, e3, e10, e11, t10, t60, q0, n3, z1, hj, hjI, hget, lk, hset, p0, p1, cImg14_at, spTargets_mv, ht, spRightP_mv, hr, spBytesL_mv, hb, spNum_mv, spNum_fn, z3, List.length_replicate, Int.toNat_natCast]
      repeat' (first | (refine AG_of ?_ ?_ <;> intro h <;> simp only [go_sem, Nat.reduceEqDiff, Nat.reduceLT, Nat.reduceLeDiff, Nat.reduceAdd, Nat.reduceSub, Nat.reduceMul, Nat.reduceBEq, ↓reduceIte, reduceCtorEq, Int.reduceLT, Int.reduceToNat, UInt8.reduceToNat, Int.reduceLE, Int.reduceBEq, Int.reduceBNe, Int.reduceAdd, Int.reduceSub, Int.reduceMul, Int.reduceNeg, e0, e1, e2, e3, e10, e11, t10, t60, q0, n3, z1, hj, hjI, hget, lk, hset, p0, p1, cImg14_at, spTargets_mv, ht, spRightP_mv, hr, spBytesL_mv, hb, spNum_mv, spNum_fn, z3, List.length_replicate, Int.toNat_natCast, h]) | (refine AB_of ?_ ?_ <;> intro h <;> simp only [go_sem, Nat.reduceEqDiff, Nat.reduceLT, Nat.reduceLeDiff, Nat.reduceAdd, Nat.reduceSub, Nat.reduceMul, Nat.reduceBEq, ↓reduceIte, reduceCtorEq, Int.reduceLT, Int.reduceToNat, UInt8.reduceToNat, Int.reduceLE, Int.reduceBEq, Int.reduceBNe, Int.reduceAdd, Int.reduceSub, Int.reduceMul, Int.reduceNeg, e0, e1, e2, e3, e10, e11, t10, t60, q0, n3, z1, hj, hjI, hget, lk, hset, p0, p1, cImg14_at, spTargets_mv, ht, spRightP_mv, hr, spBytesL_mv, hb, spNum_mv, spNum_fn, z3, List.length_replicate, Int.toNat_natCast, h]) | (refine A_draw_of [] [] (by kernel_rfl) ?_ <;> simp only [go_sem, Nat.reduceEqDiff, Nat.reduceLT, Nat.reduceLeDiff, Nat.reduceAdd, Nat.reduceSub, Nat.reduceMul, Nat.reduceBEq, ↓reduceIte, reduceCtorEq, Int.reduceLT, Int.reduceToNat, UInt8.reduceToNat, Int.reduceLE, Int.reduceBEq, Int.reduceBNe, Int.reduceAdd, Int.reduceSub, Int.reduceMul, Int.reduceNeg, e0, e1, e2, e3, e10, e11, t10, t60, q0, n3, z1, hj, hjI, hget, lk, hset, p0, p1, cImg14_at, spTargets_mv, ht, spRightP_mv, hr, spBytesL_mv, hb, spNum_mv, spNum_fn, z3, List.length_replicate, Int.toNat_natCast]))
      all_goals (first | refine fin_ret ?_ | refine fin_normal ?_)
      all_goals simp only [resOf, Try.results5, Try.ntmps5, go_sem, Nat.reduceEqDiff, Nat.reduceLT, Nat.reduceLeDiff, Nat.reduceAdd, Nat.reduceSub, Nat.reduceMul, Nat.reduceBEq, ↓reduceIte, reduceCtorEq, Int.reduceLT, Int.reduceToNat, UInt8.reduceToNat, Int.reduceLE, Int.reduceBEq, Int.reduceBNe, Int.reduceAdd, Int.reduceSub, Int.reduceMul, Int.reduceNeg]
    have p1 : decide ((j : Int) + imm < k) = true := by simp; omega
    simp only [p0, p1, Bool.and_true, Bool.not_false, Bool.not_true, if_true, Bool.false_eq_true, if_false] at ht hr hb
    simp only [go_sem, Nat.reduceEqDiff, Nat.reduceLT, Nat.reduceLeDiff, Nat.reduceAdd, Nat.reduceSub, Nat.reduceMul, Nat.reduceBEq, ↓reduceIte, reduceCtorEq, Int.reduceLT, Int.reduceToNat, UInt8.reduceToNat, Int.reduceLE, Int.reduceBEq, Int.reduceBNe, Int.reduceAdd, Int.reduceSub, Int.reduceMul, Int.reduceNeg, e0, e1, e2, e3, e10, e11, t10, t60, q0, n3, z1, hj, hjI, hget, lk, hset, p0, p1, cImg14_at, spTargets_mv, ht, spRightP_mv, hr, spBytesL_mv, hb, spNum_mv, spNum_fn, z3, lL, g9, List.length_replicate, Int.toNat_natCast]
    repeat' (first | (refine AG_of ?_ ?_ <;> intro h <;> simp only [go_sem, Nat.reduceEqDiff, Nat.reduceLT, Nat.reduceLeDiff, Nat.reduceAdd, Nat.reduceSub, Nat.reduceMul, Nat.reduceBEq, ↓reduceIte, reduceCtorEq, Int.reduceLT, Int.reduceToNat, UInt8.reduceToNat, Int.reduceLE, Int.reduceBEq, Int.reduceBNe, Int.reduceAdd, Int.reduceSub, Int.reduceMul, Int.reduceNeg, e0, e1, e2, e3, e10, e11, t10, t60, q0, n3, z1, hj, hjI, hget, lk, hset, p0, p1, cImg14_at, spTargets_mv, ht, spRightP_mv, hr, spBytesL_mv, hb, spNum_mv, spNum_fn, z3, lL, g9, List.length_replicate, Int.toNat_natCast, h]) | (refine AB_of ?_ ?_ <;> intro h <;> simp only [go_sem, Nat.reduceEqDiff, Nat.reduceLT, Nat.reduceLeDiff, Nat.reduceAdd, Nat.reduceSub, Nat.reduceMul, Nat.reduceBEq, ↓reduceIte, reduceCtorEq, Int.reduceLT, Int.reduceToNat, UInt8.reduceToNat, Int.reduceLE, Int.reduceBEq, Int.reduceBNe, Int.reduceAdd, Int.reduceSub, Int.reduceMul, Int.reduceNeg, e0, e1, e2, e3, e10, e11, t10, t60, q0, n3, z1, hj, hjI, hget, lk, hset, p0, p1, cImg14_at, spTargets_mv, ht, spRightP_mv, hr, spBytesL_mv, hb, spNum_mv, spNum_fn, z3, lL, g9, List.length_replicate, Int.toNat_natCast, h]) | (refine A_draw_of [] [] (by kernel_rfl) ?_ <;> simp only [go_sem, Nat.reduceEqDiff, Nat.reduceLT, Nat.reduceLeDiff, Nat.reduceAdd, Nat.reduceSub, Nat.reduceMul, Nat.reduceBEq, ↓reduceIte, reduceCtorEq, Int.reduceLT, Int.reduceToNat, UInt8.reduceToNat, Int.reduceLE, Int.reduceBEq, Int.reduceBNe, Int.reduceAdd, Int.reduceSub, Int.reduceMul, Int.reduceNeg, e0, e1, e2, e3, e10, e11, t10, t60, q0, n3, z1, hj, hjI, hget, lk, hset, p0, p1, cImg14_at, spTargets_mv, ht, spRightP_mv, hr, spBytesL_mv, hb, spNum_mv, spNum_fn, z3, lL, g9, List.length_replicate, Int.toNat_natCast]))
    all_goals (first | refine fin_ret ?_ | refine fin_normal ?_)
    all_goals simp only [resOf, Try.results5, Try.ntmps5, go_sem, Nat.reduceEqDiff, Nat.reduceLT, Nat.reduceLeDiff, Nat.reduceAdd, Nat.reduceSub, Nat.reduceMul, Nat.reduceBEq, ↓reduceIte, reduceCtorEq, Int.reduceLT, Int.reduceToNat, UInt8.reduceToNat, Int.reduceLE, Int.reduceBEq, Int.reduceBNe, Int.reduceAdd, Int.reduceSub, Int.reduceMul, Int.reduceNeg]
end Go.Proofs.Ytecckfhmgnlmnaa
