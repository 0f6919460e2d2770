/-
image.Bytes by the plain reckoning. No condition.
-/
import Derived.Test.YtecckfhmgnlmnaaImgO
namespace Go.Proofs.Ytecckfhmgnlmnaa
set_option linter.unusedSimpArgs false

/-- how a program is written -/
def codeB (c : List Ins) : List Int := c.flatMap fun i => putB (encT i).1
def headBytes (p : Prg) : List Int := [83, 82, 73, 1] ++ putB p.code.length ++ putB p.size ++ putB p.data.length
def imgB (p : Prg) : List Int := headBytes p ++ codeB p.code ++ p.data
def spBytes : Spec := ⟨[], fun xs => match xs with
  | [x] => (prgOf x).bind fun p => some (if rightP p = true then .own 1 5 ((imgB p).map u8v) else .s (.slice none 0 0))
  | _ => none⟩

def cImg9 : Orc := upd (upd (upd cImg8 13 (some spRightP)) 35 (some spOf)) 34 (some spPut)
theorem cImg9_ok : ∀ g sp, cImg9 g = some sp → Impl Try.prog g sp := orc_upd (orc_upd (orc_upd cImg8_ok iright_impl) of_impl) put_impl
theorem cImg9_at : cImg9 13 = some spRightP ∧ cImg9 35 = some spOf ∧ cImg9 34 = some spPut ∧ cImg9 36 = some spEncode := ⟨rfl, rfl, rfl, rfl⟩
theorem spRightP_mv : spRightP.mv = [] := rfl
theorem spOf_mv : spOf.mv = [] := rfl
theorem spOf_fn (n : Int) : spOf.fn [.s (.int .i64 n)] = some (.s (.int .u32 (n % 4294967296))) := rfl
theorem spPut_mv : spPut.mv = [] := rfl
theorem spRightP_v (p : Prg) : spRightP.fn [.agg [.lst false 5 (p.code.map Ins.v), .s (.int .i64 p.size), .lst false 1 (p.data.map u8v)]] = some (.s (.bool (rightP p))) := by
  have := prgOf_v p
  unfold Prg.v at this
  simp [spRightP, this]
theorem spPut_nil (w : Int) (h : 0 ≤ w) : spPut.fn [.s (.slice none 0 0), .s (.int .u32 w)] = some (.own 1 5 ((putB w).map u8v)) := by
  simp [spPut, lOf, h]
theorem spPut_fn (l : List Int) (w : Int) (h : 0 ≤ w) (hl : l.length ≤ 1000000000) : spPut.fn [.lst false 1 (l.map u8v), .s (.int .u32 w)] = some (.own 1 5 ((l ++ putB w).map u8v)) := by
  simp [spPut, lOf, mapM_of (f := u8Of) (g := u8v) fun _ => rfl, h, hl]
theorem magic_v : [V.s (.int .u8 83), V.s (.int .u8 82), V.s (.int .u8 73), V.s (.int .u8 1)] = ([83, 82, 73, 1] : List Int).map u8v := rfl

theorem putB_len (w : Int) : (putB w).length = 4 := rfl
def hB1 (p : Prg) : List Int := [83, 82, 73, 1] ++ putB p.code.length
def hB2 (p : Prg) : List Int := hB1 p ++ putB p.size
def hB3 (p : Prg) : List Int := hB2 p ++ putB p.data.length
theorem codeB_len (c : List Ins) : (codeB c).length = 4 * c.length := by
  induction c with
  | nil => rfl
  | cons i c ih => simp only [codeB, List.flatMap_cons, List.length_append, putB_len, List.length_cons] at *; omega
theorem codeB_succ {c : List Ins} {k : Nat} {i : Ins} (h : c[k]? = some i) : codeB (c.take (k + 1)) = codeB (c.take k) ++ putB (encT i).1 := by
  rw [List.take_add_one, h]
  simp [codeB]

def bytesI (p : Prg) (s : S) : Prop :=
  s.env 1 = .ptr 1 1 0 ∧ s.st 1 = ⟨1, .box [.lst false 5 (p.code.map Ins.v), .s (.int .i64 p.size), .lst false 1 (p.data.map u8v)]⟩ ∧ s.env 35 = .lst false 5 (p.code.map Ins.v) ∧ s.env 36 = .s (.int .i64 p.code.length) ∧
  ∃ k v : Nat, s.env 37 = .s (.int .i64 k) ∧ k ≤ p.code.length ∧ s.env 3 = .sw 32 v (16 + 4 * k) ∧ s.st 32 = ⟨v, .row 1 5 ((hB3 p ++ codeB (p.code.take k)).map u8v)⟩

set_option maxHeartbeats 4000000 in
theorem bytes_impl : Impl Try.prog 18 spBytes := by
  refine impl_walk2 mixed cImg9_ok eqT_ok Try.func18 rfl Try.ntmps18 (by kernel_rfl) ?_
  intro xs r h
  unfold spBytes at h
  simp only at h
  (try split at h) <;> try (cases (show none = some r from h); done)
  rename_i x
  obtain ⟨p, hp, h3⟩ := Option.bind_eq_some_iff.1 h
  clear h
  cases h3
  refine ⟨_, prg_args hp _, by simp, ?_⟩
  have hr := spRightP_v p
  by_cases H : rightP p = true
  case neg =>
    have H2 : rightP p = false := by simpa using H
    rw [if_neg H]
    simp only [go_sem, Nat.reduceEqDiff, Nat.reduceLT, Nat.reduceLeDiff, Nat.reduceAdd, Nat.reduceSub, Nat.reduceMul, Nat.reduceBEq, ↓reduceIte, reduceCtorEq, Int.reduceLT, Int.reduceToNat, UInt8.reduceToNat, Int.reduceLE, Int.reduceBEq, Int.reduceBNe, Int.reduceAdd, Int.reduceSub, Int.reduceMul, Int.reduceNeg, Prg.v, hr, H2, cImg9_at, spRightP_mv]
    repeat' (first | (refine AG_of ?_ ?_ <;> intro h <;> simp only [go_sem, Nat.reduceEqDiff, Nat.reduceLT, Nat.reduceLeDiff, Nat.reduceAdd, Nat.reduceSub, Nat.reduceMul, Nat.reduceBEq, ↓reduceIte, reduceCtorEq, Int.reduceLT, Int.reduceToNat, UInt8.reduceToNat, Int.reduceLE, Int.reduceBEq, Int.reduceBNe, Int.reduceAdd, Int.reduceSub, Int.reduceMul, Int.reduceNeg, Prg.v, hr, H2, cImg9_at, spRightP_mv, h]) | (refine AB_of ?_ ?_ <;> intro h <;> simp only [go_sem, Nat.reduceEqDiff, Nat.reduceLT, Nat.reduceLeDiff, Nat.reduceAdd, Nat.reduceSub, Nat.reduceMul, Nat.reduceBEq, ↓reduceIte, reduceCtorEq, Int.reduceLT, Int.reduceToNat, UInt8.reduceToNat, Int.reduceLE, Int.reduceBEq, Int.reduceBNe, Int.reduceAdd, Int.reduceSub, Int.reduceMul, Int.reduceNeg, Prg.v, hr, H2, cImg9_at, spRightP_mv, h]) | (refine A_draw_of [] [] (by kernel_rfl) ?_ <;> simp only [go_sem, Nat.reduceEqDiff, Nat.reduceLT, Nat.reduceLeDiff, Nat.reduceAdd, Nat.reduceSub, Nat.reduceMul, Nat.reduceBEq, ↓reduceIte, reduceCtorEq, Int.reduceLT, Int.reduceToNat, UInt8.reduceToNat, Int.reduceLE, Int.reduceBEq, Int.reduceBNe, Int.reduceAdd, Int.reduceSub, Int.reduceMul, Int.reduceNeg, Prg.v, hr, H2, cImg9_at, spRightP_mv]))
    all_goals (first | refine fin_ret ?_ | refine fin_normal ?_)
    all_goals simp only [resOf, Try.results18, Try.ntmps18, go_sem, Nat.reduceEqDiff, Nat.reduceLT, Nat.reduceLeDiff, Nat.reduceAdd, Nat.reduceSub, Nat.reduceMul, Nat.reduceBEq, ↓reduceIte, reduceCtorEq, Int.reduceLT, Int.reduceToNat, UInt8.reduceToNat, Int.reduceLE, Int.reduceBEq, Int.reduceBNe, Int.reduceAdd, Int.reduceSub, Int.reduceMul, Int.reduceNeg]
  have H' := H
  simp only [rightP, headB, Bool.and_eq_true, decide_eq_true_eq] at H'
  obtain ⟨⟨⟨⟨⟨⟨q1, q2⟩, q3⟩, q4⟩, q5⟩, hall⟩, _⟩ := H'
  rw [if_pos H]
  have o1 : spOf.fn [.s (.int .i64 p.code.length)] = some (.s (.int .u32 p.code.length)) := by rw [spOf_fn, Int.emod_eq_of_lt (by omega) (by omega)]
  have o2 : spOf.fn [.s (.int .i64 p.size)] = some (.s (.int .u32 p.size)) := by rw [spOf_fn, Int.emod_eq_of_lt (by omega) (by omega)]
  have o3 : spOf.fn [.s (.int .i64 p.data.length)] = some (.s (.int .u32 p.data.length)) := by rw [spOf_fn, Int.emod_eq_of_lt (by omega) (by omega)]
  have P1 : spPut.fn [.lst false 1 [.s (.int .u8 83), .s (.int .u8 82), .s (.int .u8 73), .s (.int .u8 1)], .s (.int .u32 p.code.length)] = some (.own 1 5 ((hB1 p).map u8v)) := spPut_fn [83, 82, 73, 1] _ (by omega) (by simp)
  have P2 : spPut.fn [.lst false 1 ((hB1 p).map u8v), .s (.int .u32 p.size)] = some (.own 1 5 ((hB2 p).map u8v)) := spPut_fn _ _ (by omega) (by simp [hB1, putB_len])
  have P3 : spPut.fn [.lst false 1 ((hB2 p).map u8v), .s (.int .u32 p.data.length)] = some (.own 1 5 ((hB3 p).map u8v)) := spPut_fn _ _ (by omega) (by simp [hB1, hB2, putB_len])
  have l3 : (hB3 p).length = 16 := by simp [hB1, hB2, hB3, putB_len]
  simp only [go_sem, Nat.reduceEqDiff, Nat.reduceLT, Nat.reduceLeDiff, Nat.reduceAdd, Nat.reduceSub, Nat.reduceMul, Nat.reduceBEq, ↓reduceIte, reduceCtorEq, Int.reduceLT, Int.reduceToNat, UInt8.reduceToNat, Int.reduceLE, Int.reduceBEq, Int.reduceBNe, Int.reduceAdd, Int.reduceSub, Int.reduceMul, Int.reduceNeg, Prg.v, List.length_map, hr, H, cImg9_at, spRightP_mv]
  repeat' (first | (refine AG_of ?_ ?_ <;> intro h <;> simp only [go_sem, Nat.reduceEqDiff, Nat.reduceLT, Nat.reduceLeDiff, Nat.reduceAdd, Nat.reduceSub, Nat.reduceMul, Nat.reduceBEq, ↓reduceIte, reduceCtorEq, Int.reduceLT, Int.reduceToNat, UInt8.reduceToNat, Int.reduceLE, Int.reduceBEq, Int.reduceBNe, Int.reduceAdd, Int.reduceSub, Int.reduceMul, Int.reduceNeg, Prg.v, List.length_map, hr, H, cImg9_at, spRightP_mv, h]) | (refine AB_of ?_ ?_ <;> intro h <;> simp only [go_sem, Nat.reduceEqDiff, Nat.reduceLT, Nat.reduceLeDiff, Nat.reduceAdd, Nat.reduceSub, Nat.reduceMul, Nat.reduceBEq, ↓reduceIte, reduceCtorEq, Int.reduceLT, Int.reduceToNat, UInt8.reduceToNat, Int.reduceLE, Int.reduceBEq, Int.reduceBNe, Int.reduceAdd, Int.reduceSub, Int.reduceMul, Int.reduceNeg, Prg.v, List.length_map, hr, H, cImg9_at, spRightP_mv, h]) | (refine A_draw_of [] [] (by kernel_rfl) ?_ <;> simp only [go_sem, Nat.reduceEqDiff, Nat.reduceLT, Nat.reduceLeDiff, Nat.reduceAdd, Nat.reduceSub, Nat.reduceMul, Nat.reduceBEq, ↓reduceIte, reduceCtorEq, Int.reduceLT, Int.reduceToNat, UInt8.reduceToNat, Int.reduceLE, Int.reduceBEq, Int.reduceBNe, Int.reduceAdd, Int.reduceSub, Int.reduceMul, Int.reduceNeg, Prg.v, List.length_map, hr, H, cImg9_at, spRightP_mv]))
  refine A_round ?_
  simp only [go_sem, Nat.reduceEqDiff, Nat.reduceLT, Nat.reduceLeDiff, Nat.reduceAdd, Nat.reduceSub, Nat.reduceMul, Nat.reduceBEq, ↓reduceIte, reduceCtorEq, Int.reduceLT, Int.reduceToNat, UInt8.reduceToNat, Int.reduceLE, Int.reduceBEq, Int.reduceBNe, Int.reduceAdd, Int.reduceSub, Int.reduceMul, Int.reduceNeg, Prg.v, List.length_map, hr, H, cImg9_at, spOf_mv, spPut_mv, o1, P1]
  repeat' (first | (refine AG_of ?_ ?_ <;> intro h <;> simp only [go_sem, Nat.reduceEqDiff, Nat.reduceLT, Nat.reduceLeDiff, Nat.reduceAdd, Nat.reduceSub, Nat.reduceMul, Nat.reduceBEq, ↓reduceIte, reduceCtorEq, Int.reduceLT, Int.reduceToNat, UInt8.reduceToNat, Int.reduceLE, Int.reduceBEq, Int.reduceBNe, Int.reduceAdd, Int.reduceSub, Int.reduceMul, Int.reduceNeg, Prg.v, List.length_map, hr, H, cImg9_at, spOf_mv, spPut_mv, o1, P1, h]) | (refine AB_of ?_ ?_ <;> intro h <;> simp only [go_sem, Nat.reduceEqDiff, Nat.reduceLT, Nat.reduceLeDiff, Nat.reduceAdd, Nat.reduceSub, Nat.reduceMul, Nat.reduceBEq, ↓reduceIte, reduceCtorEq, Int.reduceLT, Int.reduceToNat, UInt8.reduceToNat, Int.reduceLE, Int.reduceBEq, Int.reduceBNe, Int.reduceAdd, Int.reduceSub, Int.reduceMul, Int.reduceNeg, Prg.v, List.length_map, hr, H, cImg9_at, spOf_mv, spPut_mv, o1, P1, h]) | (refine A_draw_of [] [] (by kernel_rfl) ?_ <;> simp only [go_sem, Nat.reduceEqDiff, Nat.reduceLT, Nat.reduceLeDiff, Nat.reduceAdd, Nat.reduceSub, Nat.reduceMul, Nat.reduceBEq, ↓reduceIte, reduceCtorEq, Int.reduceLT, Int.reduceToNat, UInt8.reduceToNat, Int.reduceLE, Int.reduceBEq, Int.reduceBNe, Int.reduceAdd, Int.reduceSub, Int.reduceMul, Int.reduceNeg, Prg.v, List.length_map, hr, H, cImg9_at, spOf_mv, spPut_mv, o1, P1]))
  refine A_round ?_
  simp only [go_sem, Nat.reduceEqDiff, Nat.reduceLT, Nat.reduceLeDiff, Nat.reduceAdd, Nat.reduceSub, Nat.reduceMul, Nat.reduceBEq, ↓reduceIte, reduceCtorEq, Int.reduceLT, Int.reduceToNat, UInt8.reduceToNat, Int.reduceLE, Int.reduceBEq, Int.reduceBNe, Int.reduceAdd, Int.reduceSub, Int.reduceMul, Int.reduceNeg, Prg.v, List.length_map, hr, H, cImg9_at, spOf_mv, spPut_mv, o2, P2]
  repeat' (first | (refine AG_of ?_ ?_ <;> intro h <;> simp only [go_sem, Nat.reduceEqDiff, Nat.reduceLT, Nat.reduceLeDiff, Nat.reduceAdd, Nat.reduceSub, Nat.reduceMul, Nat.reduceBEq, ↓reduceIte, reduceCtorEq, Int.reduceLT, Int.reduceToNat, UInt8.reduceToNat, Int.reduceLE, Int.reduceBEq, Int.reduceBNe, Int.reduceAdd, Int.reduceSub, Int.reduceMul, Int.reduceNeg, Prg.v, List.length_map, hr, H, cImg9_at, spOf_mv, spPut_mv, o2, P2, h]) | (refine AB_of ?_ ?_ <;> intro h <;> simp only [go_sem, Nat.reduceEqDiff, Nat.reduceLT, Nat.reduceLeDiff, Nat.reduceAdd, Nat.reduceSub, Nat.reduceMul, Nat.reduceBEq, ↓reduceIte, reduceCtorEq, Int.reduceLT, Int.reduceToNat, UInt8.reduceToNat, Int.reduceLE, Int.reduceBEq, Int.reduceBNe, Int.reduceAdd, Int.reduceSub, Int.reduceMul, Int.reduceNeg, Prg.v, List.length_map, hr, H, cImg9_at, spOf_mv, spPut_mv, o2, P2, h]) | (refine A_draw_of [] [] (by kernel_rfl) ?_ <;> simp only [go_sem, Nat.reduceEqDiff, Nat.reduceLT, Nat.reduceLeDiff, Nat.reduceAdd, Nat.reduceSub, Nat.reduceMul, Nat.reduceBEq, ↓reduceIte, reduceCtorEq, Int.reduceLT, Int.reduceToNat, UInt8.reduceToNat, Int.reduceLE, Int.reduceBEq, Int.reduceBNe, Int.reduceAdd, Int.reduceSub, Int.reduceMul, Int.reduceNeg, Prg.v, List.length_map, hr, H, cImg9_at, spOf_mv, spPut_mv, o2, P2]))
  refine A_round ?_
  simp only [go_sem, Nat.reduceEqDiff, Nat.reduceLT, Nat.reduceLeDiff, Nat.reduceAdd, Nat.reduceSub, Nat.reduceMul, Nat.reduceBEq, ↓reduceIte, reduceCtorEq, Int.reduceLT, Int.reduceToNat, UInt8.reduceToNat, Int.reduceLE, Int.reduceBEq, Int.reduceBNe, Int.reduceAdd, Int.reduceSub, Int.reduceMul, Int.reduceNeg, Prg.v, List.length_map, hr, H, cImg9_at, spOf_mv, spPut_mv, o3, P3]
  repeat' (first | (refine AG_of ?_ ?_ <;> intro h <;> simp only [go_sem, Nat.reduceEqDiff, Nat.reduceLT, Nat.reduceLeDiff, Nat.reduceAdd, Nat.reduceSub, Nat.reduceMul, Nat.reduceBEq, ↓reduceIte, reduceCtorEq, Int.reduceLT, Int.reduceToNat, UInt8.reduceToNat, Int.reduceLE, Int.reduceBEq, Int.reduceBNe, Int.reduceAdd, Int.reduceSub, Int.reduceMul, Int.reduceNeg, Prg.v, List.length_map, hr, H, cImg9_at, spOf_mv, spPut_mv, o3, P3, h]) | (refine AB_of ?_ ?_ <;> intro h <;> simp only [go_sem, Nat.reduceEqDiff, Nat.reduceLT, Nat.reduceLeDiff, Nat.reduceAdd, Nat.reduceSub, Nat.reduceMul, Nat.reduceBEq, ↓reduceIte, reduceCtorEq, Int.reduceLT, Int.reduceToNat, UInt8.reduceToNat, Int.reduceLE, Int.reduceBEq, Int.reduceBNe, Int.reduceAdd, Int.reduceSub, Int.reduceMul, Int.reduceNeg, Prg.v, List.length_map, hr, H, cImg9_at, spOf_mv, spPut_mv, o3, P3, h]) | (refine A_draw_of [] [] (by kernel_rfl) ?_ <;> simp only [go_sem, Nat.reduceEqDiff, Nat.reduceLT, Nat.reduceLeDiff, Nat.reduceAdd, Nat.reduceSub, Nat.reduceMul, Nat.reduceBEq, ↓reduceIte, reduceCtorEq, Int.reduceLT, Int.reduceToNat, UInt8.reduceToNat, Int.reduceLE, Int.reduceBEq, Int.reduceBNe, Int.reduceAdd, Int.reduceSub, Int.reduceMul, Int.reduceNeg, Prg.v, List.length_map, hr, H, cImg9_at, spOf_mv, spPut_mv, o3, P3]))
  refine A_round ?_
  simp only [go_sem, Nat.reduceEqDiff, Nat.reduceLT, Nat.reduceLeDiff, Nat.reduceAdd, Nat.reduceSub, Nat.reduceMul, Nat.reduceBEq, ↓reduceIte, reduceCtorEq, Int.reduceLT, Int.reduceToNat, UInt8.reduceToNat, Int.reduceLE, Int.reduceBEq, Int.reduceBNe, Int.reduceAdd, Int.reduceSub, Int.reduceMul, Int.reduceNeg, Prg.v, List.length_map, hr, H]
  repeat' (first | (refine AG_of ?_ ?_ <;> intro h <;> simp only [go_sem, Nat.reduceEqDiff, Nat.reduceLT, Nat.reduceLeDiff, Nat.reduceAdd, Nat.reduceSub, Nat.reduceMul, Nat.reduceBEq, ↓reduceIte, reduceCtorEq, Int.reduceLT, Int.reduceToNat, UInt8.reduceToNat, Int.reduceLE, Int.reduceBEq, Int.reduceBNe, Int.reduceAdd, Int.reduceSub, Int.reduceMul, Int.reduceNeg, Prg.v, List.length_map, hr, H, h]) | (refine AB_of ?_ ?_ <;> intro h <;> simp only [go_sem, Nat.reduceEqDiff, Nat.reduceLT, Nat.reduceLeDiff, Nat.reduceAdd, Nat.reduceSub, Nat.reduceMul, Nat.reduceBEq, ↓reduceIte, reduceCtorEq, Int.reduceLT, Int.reduceToNat, UInt8.reduceToNat, Int.reduceLE, Int.reduceBEq, Int.reduceBNe, Int.reduceAdd, Int.reduceSub, Int.reduceMul, Int.reduceNeg, Prg.v, List.length_map, hr, H, h]) | (refine A_draw_of [] [] (by kernel_rfl) ?_ <;> simp only [go_sem, Nat.reduceEqDiff, Nat.reduceLT, Nat.reduceLeDiff, Nat.reduceAdd, Nat.reduceSub, Nat.reduceMul, Nat.reduceBEq, ↓reduceIte, reduceCtorEq, Int.reduceLT, Int.reduceToNat, UInt8.reduceToNat, Int.reduceLE, Int.reduceBEq, Int.reduceBNe, Int.reduceAdd, Int.reduceSub, Int.reduceMul, Int.reduceNeg, Prg.v, List.length_map, hr, H]))
  have r3 : ((hB3 p).map u8v).length = 16 := by simp [l3]
  refine A_loop (bytesI p) (fun s => p.code.length - (numOf (s.env 37)).toNat) ?_ ?_
  · refine ⟨by simp [upd], by simp [upd], by simp [upd], by simp [upd], 0, 3, by simp [upd], by omega, by simp [upd, init, l3], by simp [upd, init, codeB]⟩
  intro s hs
  obtain ⟨e1, t1, e35, e36, k, v, e37, hk, e3, t32⟩ := hs
  rcases Nat.lt_or_ge k p.code.length with hlt | hge
  · obtain ⟨i, q⟩ : ∃ i, p.code[k]? = some i := ⟨p.code[k], List.getElem?_eq_getElem hlt⟩
    have hi : rightB i = true := List.all_eq_true.1 hall i (List.mem_of_getElem? q)
    have g0 : decide ((k : Int) < p.code.length) = true := by simp; omega
    have z0 := Int.natCast_nonneg k
    have n2 : IntKind.i64.wrap ((k : Int) + 1) = (k + 1 : Nat) := by rw [w_i64 (by omega) (by omega)]; omega
    have w0 : 0 ≤ (encT i).1 := by
      rw [encT_right hi]
      obtain ⟨o0, o1, d0, d1, a0, a1, b0, b1, m0, m1⟩ := right_fit hi
      simp only [encW]
      omega
    obtain ⟨op, d, a, b, imm⟩ := i
    have he : spEncode.fn [.agg [.s (.int .i64 op), .s (.int .i64 d), .s (.int .i64 a), .s (.int .i64 b), .s (.int .i64 imm)]] = some (.tup [.s (.int .u32 (encT ⟨op, d, a, b, imm⟩).1), .s (.bool (encT ⟨op, d, a, b, imm⟩).2)]) := rfl
    have hput := spPut_nil _ w0
    have f1 : ((hB3 p).length + (codeB (p.code.take k)).length + 4) * 1 ≤ 140737488355328 := by rw [l3, codeB_len]; simp; omega
    simp only [go_sem, Nat.reduceEqDiff, Nat.reduceLT, Nat.reduceLeDiff, Nat.reduceAdd, Nat.reduceSub, Nat.reduceMul, Nat.reduceBEq, ↓reduceIte, reduceCtorEq, Int.reduceLT, Int.reduceToNat, UInt8.reduceToNat, Int.reduceLE, Int.reduceBEq, Int.reduceBNe, Int.reduceAdd, Int.reduceSub, Int.reduceMul, Int.reduceNeg, e1, t1, e35, e36, e37, e3, t32, q, g0, z0, n2, he, hput, putB_len, cImg9_at, spPut_mv, spEncode_mv, f1, List.length_append, Int.toNat_natCast, List.getElem?_map, List.length_map, Ins.v]
    repeat' (first | (refine AG_of ?_ ?_ <;> intro h <;> simp only [go_sem, Nat.reduceEqDiff, Nat.reduceLT, Nat.reduceLeDiff, Nat.reduceAdd, Nat.reduceSub, Nat.reduceMul, Nat.reduceBEq, ↓reduceIte, reduceCtorEq, Int.reduceLT, Int.reduceToNat, UInt8.reduceToNat, Int.reduceLE, Int.reduceBEq, Int.reduceBNe, Int.reduceAdd, Int.reduceSub, Int.reduceMul, Int.reduceNeg, e1, t1, e35, e36, e37, e3, t32, q, g0, z0, n2, he, hput, putB_len, cImg9_at, spPut_mv, spEncode_mv, f1, List.length_append, Int.toNat_natCast, List.getElem?_map, List.length_map, Ins.v, h]) | (refine AB_of ?_ ?_ <;> intro h <;> simp only [go_sem, Nat.reduceEqDiff, Nat.reduceLT, Nat.reduceLeDiff, Nat.reduceAdd, Nat.reduceSub, Nat.reduceMul, Nat.reduceBEq, ↓reduceIte, reduceCtorEq, Int.reduceLT, Int.reduceToNat, UInt8.reduceToNat, Int.reduceLE, Int.reduceBEq, Int.reduceBNe, Int.reduceAdd, Int.reduceSub, Int.reduceMul, Int.reduceNeg, e1, t1, e35, e36, e37, e3, t32, q, g0, z0, n2, he, hput, putB_len, cImg9_at, spPut_mv, spEncode_mv, f1, List.length_append, Int.toNat_natCast, List.getElem?_map, List.length_map, Ins.v, h]) | (refine A_draw_of [] [] (by kernel_rfl) ?_ <;> simp only [go_sem, Nat.reduceEqDiff, Nat.reduceLT, Nat.reduceLeDiff, Nat.reduceAdd, Nat.reduceSub, Nat.reduceMul, Nat.reduceBEq, ↓reduceIte, reduceCtorEq, Int.reduceLT, Int.reduceToNat, UInt8.reduceToNat, Int.reduceLE, Int.reduceBEq, Int.reduceBNe, Int.reduceAdd, Int.reduceSub, Int.reduceMul, Int.reduceNeg, e1, t1, e35, e36, e37, e3, t32, q, g0, z0, n2, he, hput, putB_len, cImg9_at, spPut_mv, spEncode_mv, f1, List.length_append, Int.toNat_natCast, List.getElem?_map, List.length_map, Ins.v]))
    refine ⟨⟨by simp [upd, e1], by simp [upd, t1], by simp [upd, e35], by simp [upd, e36], k + 1, v + 1, by simp [upd], by omega, ?_, ?_⟩, by simp [upd, numOf, e37]; omega⟩
    · simp [upd, l3, codeB_len]; omega
    · simp [upd, codeB_succ q]
  · have hkl : k = p.code.length := by omega
    subst hkl
    have g0 : decide ((p.code.length : Int) < p.code.length) = false := by simp
    have sc := scal_u8 p.data
    have f1 : ((hB3 p).length + (codeB p.code).length + p.data.length) * 1 ≤ 140737488355328 := by rw [l3, codeB_len]; omega
    rw [List.take_length] at t32
    simp only [go_sem, Nat.reduceEqDiff, Nat.reduceLT, Nat.reduceLeDiff, Nat.reduceAdd, Nat.reduceSub, Nat.reduceMul, Nat.reduceBEq, ↓reduceIte, reduceCtorEq, Int.reduceLT, Int.reduceToNat, UInt8.reduceToNat, Int.reduceLE, Int.reduceBEq, Int.reduceBNe, Int.reduceAdd, Int.reduceSub, Int.reduceMul, Int.reduceNeg, e1, t1, e35, e36, e37, e3, t32, g0, sc, f1, List.length_map, List.length_append]
    repeat' (first | (refine AG_of ?_ ?_ <;> intro h <;> simp only [go_sem, Nat.reduceEqDiff, Nat.reduceLT, Nat.reduceLeDiff, Nat.reduceAdd, Nat.reduceSub, Nat.reduceMul, Nat.reduceBEq, ↓reduceIte, reduceCtorEq, Int.reduceLT, Int.reduceToNat, UInt8.reduceToNat, Int.reduceLE, Int.reduceBEq, Int.reduceBNe, Int.reduceAdd, Int.reduceSub, Int.reduceMul, Int.reduceNeg, e1, t1, e35, e36, e37, e3, t32, g0, sc, f1, List.length_map, List.length_append, h]) | (refine AB_of ?_ ?_ <;> intro h <;> simp only [go_sem, Nat.reduceEqDiff, Nat.reduceLT, Nat.reduceLeDiff, Nat.reduceAdd, Nat.reduceSub, Nat.reduceMul, Nat.reduceBEq, ↓reduceIte, reduceCtorEq, Int.reduceLT, Int.reduceToNat, UInt8.reduceToNat, Int.reduceLE, Int.reduceBEq, Int.reduceBNe, Int.reduceAdd, Int.reduceSub, Int.reduceMul, Int.reduceNeg, e1, t1, e35, e36, e37, e3, t32, g0, sc, f1, List.length_map, List.length_append, h]) | (refine A_draw_of [] [] (by kernel_rfl) ?_ <;> simp only [go_sem, Nat.reduceEqDiff, Nat.reduceLT, Nat.reduceLeDiff, Nat.reduceAdd, Nat.reduceSub, Nat.reduceMul, Nat.reduceBEq, ↓reduceIte, reduceCtorEq, Int.reduceLT, Int.reduceToNat, UInt8.reduceToNat, Int.reduceLE, Int.reduceBEq, Int.reduceBNe, Int.reduceAdd, Int.reduceSub, Int.reduceMul, Int.reduceNeg, e1, t1, e35, e36, e37, e3, t32, g0, sc, f1, List.length_map, List.length_append]))
    all_goals (first | refine fin_ret ?_ | refine fin_normal ?_)
    all_goals simp only [resOf, Try.results18, Try.ntmps18, go_sem, Nat.reduceEqDiff, Nat.reduceLT, Nat.reduceLeDiff, Nat.reduceAdd, Nat.reduceSub, Nat.reduceMul, Nat.reduceBEq, ↓reduceIte, reduceCtorEq, Int.reduceLT, Int.reduceToNat, UInt8.reduceToNat, Int.reduceLE, Int.reduceBEq, Int.reduceBNe, Int.reduceAdd, Int.reduceSub, Int.reduceMul, Int.reduceNeg]
    all_goals simp [imgB, headBytes, hB1, hB2, hB3]
end Go.Proofs.Ytecckfhmgnlmnaa
