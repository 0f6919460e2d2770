/-
Targets by the plain reckoning. No condition.
-/
import Derived.Test.YtecckfhmgnlmnaaImgE
namespace Go.Proofs.Ytecckfhmgnlmnaa
set_option linter.unusedSimpArgs false

/-- a branch that leads out of the code -/
def badI (len : Nat) (n : Nat) (i : Ins) : Bool := (form i.op == 6 || form i.op == 7) && (decide ((n : Int) + i.imm < 0) || decide ((len : Int) ≤ n + i.imm))
def badAt (p : Prg) (n : Nat) : Bool := match p.code[n]? with
  | some i => badI p.code.length n i
  | none => false
def targsB (p : Prg) : Bool := (List.range p.code.length).any (badAt p)
def targs (p : Prg) : Int := if targsB p then 4 else 0
theorem targs_bad {p : Prg} {k : Nat} {i : Ins} (h : p.code[k]? = some i) (hb : badI p.code.length k i = true) : targs p = 4 := by
  have hk : k < p.code.length := (List.getElem?_eq_some_iff.1 h).1
  unfold targs targsB
  rw [if_pos]
  exact List.any_eq_true.2 ⟨k, by simpa using hk, by simp [badAt, h, hb]⟩
theorem any_succ {p : Prg} {k : Nat} {i : Ins} (h : p.code[k]? = some i) (hb : badI p.code.length k i = false) (ha : (List.range k).any (badAt p) = false) : (List.range (k + 1)).any (badAt p) = false := by
  rw [List.range_succ, List.any_append, ha]
  simp [badAt, h, hb]

/-- the numbers in an instruction are of their kind -/
def insOk (i : Ins) : Bool := decide (-1000000000 ≤ i.imm) && decide (i.imm ≤ 1000000000)
def spTargets : Spec := ⟨[], fun xs => match xs with
  | [x] => (prgOf x).bind fun p => if p.code.length ≤ 1000000000 then some (.s (.int .i64 (targs p))) else none
  | _ => none⟩

def cImg2 : Orc := upd cImg1 31 (some spTarget)
theorem cImg2_ok : ∀ g sp, cImg2 g = some sp → Impl Try.prog g sp := orc_upd cImg1_ok target_impl
theorem cImg2_at : cImg2 31 = some spTarget := rfl
theorem spTarget_mv : spTarget.mv = [] := rfl

def targI (p : Prg) (s : S) : Prop :=
  s.env 1 = .ptr 1 1 0 ∧ s.st 1 = ⟨1, .box [.lst false 5 (p.code.map Ins.v), .s (.int .i64 p.size), .lst false 1 (p.data.map u8v)]⟩ ∧ s.env 8 = .lst false 5 (p.code.map Ins.v) ∧ s.env 9 = .s (.int .i64 p.code.length) ∧
  ∃ k : Nat, s.env 10 = .s (.int .i64 k) ∧ k ≤ p.code.length ∧ (List.range k).any (badAt p) = false

set_option maxHeartbeats 2000000 in
theorem targets_impl : Impl Try.prog 16 spTargets := by
  refine impl_walk2 mixed cImg2_ok eqT_ok Try.func16 rfl Try.ntmps16 (by kernel_rfl) ?_
  intro xs r h
  unfold spTargets at h
  simp only at h
  (try split at h) <;> try (cases (show none = some r from h); done)
  rename_i x
  obtain ⟨p, hp, h3⟩ := Option.bind_eq_some_iff.1 h
  clear h
  split at h3
  case isFalse => cases h3
  rename_i hlen
  cases h3
  refine ⟨_, prg_args hp _, by simp, ?_⟩
  simp only [go_sem, Nat.reduceEqDiff, Nat.reduceLT, Nat.reduceLeDiff, Nat.reduceAdd, Nat.reduceSub, Nat.reduceMul, Nat.reduceBEq, ↓reduceIte, reduceCtorEq, Int.reduceLT, Int.reduceToNat, UInt8.reduceToNat, Int.reduceLE, Int.reduceBEq, Int.reduceBNe, Int.reduceAdd, Int.reduceSub, Int.reduceMul, Int.reduceNeg, Prg.v, List.length_map]
  repeat' (first | (refine AG_of ?_ ?_ <;> intro h <;> simp only [go_sem, Nat.reduceEqDiff, Nat.reduceLT, Nat.reduceLeDiff, Nat.reduceAdd, Nat.reduceSub, Nat.reduceMul, Nat.reduceBEq, ↓reduceIte, reduceCtorEq, Int.reduceLT, Int.reduceToNat, UInt8.reduceToNat, Int.reduceLE, Int.reduceBEq, Int.reduceBNe, Int.reduceAdd, Int.reduceSub, Int.reduceMul, Int.reduceNeg, Prg.v, List.length_map, h]) | (refine AB_of ?_ ?_ <;> intro h <;> simp only [go_sem, Nat.reduceEqDiff, Nat.reduceLT, Nat.reduceLeDiff, Nat.reduceAdd, Nat.reduceSub, Nat.reduceMul, Nat.reduceBEq, ↓reduceIte, reduceCtorEq, Int.reduceLT, Int.reduceToNat, UInt8.reduceToNat, Int.reduceLE, Int.reduceBEq, Int.reduceBNe, Int.reduceAdd, Int.reduceSub, Int.reduceMul, Int.reduceNeg, Prg.v, List.length_map, h]) | (refine A_draw_of [] [] (by kernel_rfl) ?_ <;> simp only [go_sem, Nat.reduceEqDiff, Nat.reduceLT, Nat.reduceLeDiff, Nat.reduceAdd, Nat.reduceSub, Nat.reduceMul, Nat.reduceBEq, ↓reduceIte, reduceCtorEq, Int.reduceLT, Int.reduceToNat, UInt8.reduceToNat, Int.reduceLE, Int.reduceBEq, Int.reduceBNe, Int.reduceAdd, Int.reduceSub, Int.reduceMul, Int.reduceNeg, Prg.v, List.length_map]))
  refine A_loop (targI p) (fun s => p.code.length - (numOf (s.env 10)).toNat) ?_ ?_
  · refine ⟨by simp [upd], by simp [upd], by simp [upd], by simp [upd], 0, by simp [upd], by omega, rfl⟩
  intro s hs
  obtain ⟨e1, t1, e8, e9, k, e10, hk, hany⟩ := hs
  rcases Nat.lt_or_ge k p.code.length with hlt | hge
  · obtain ⟨⟨op, d, a, b, imm⟩, q⟩ : ∃ i, p.code[k]? = some i := ⟨p.code[k], List.getElem?_eq_getElem hlt⟩
    have g0 : decide ((k : Int) < p.code.length) = true := by simp; omega
    have z0 := Int.natCast_nonneg k
    have ht : spTarget.fn [.agg [.lst false 5 (p.code.map Ins.v), .s (.int .i64 p.size), .lst false 1 (p.data.map u8v)], .s (.int .i64 k)] = some (.tup [.s (.int .i64 (IntKind.i64.wrap (k + imm))), .s (.bool (form op == 6 || form op == 7))]) := by
      have := prgOf_v p
      unfold Prg.v at this
      simp [spTarget, this, q]
    have n0 : IntKind.i64.wrap (0 - (k : Int)) = -(k : Int) := by rw [w_i64 (by omega) (by omega)]; omega
    have n1 : IntKind.i64.wrap ((p.code.length : Int) - k) = p.code.length - k := w_i64 (by omega) (by omega)
    have n2 : IntKind.i64.wrap ((k : Int) + 1) = (k + 1 : Nat) := by rw [w_i64 (by omega) (by omega)]; omega
    simp only [go_sem, Nat.reduceEqDiff, Nat.reduceLT, Nat.reduceLeDiff, Nat.reduceAdd, Nat.reduceSub, Nat.reduceMul, Nat.reduceBEq, ↓reduceIte, reduceCtorEq, Int.reduceLT, Int.reduceToNat, UInt8.reduceToNat, Int.reduceLE, Int.reduceBEq, Int.reduceBNe, Int.reduceAdd, Int.reduceSub, Int.reduceMul, Int.reduceNeg, e1, t1, e8, e9, e10, q, g0, z0, ht, n0, n1, n2, cImg2_at, spTarget_mv, Int.toNat_natCast, List.getElem?_map, List.length_map, Ins.v]
    repeat' (first | (refine AG_of ?_ ?_ <;> intro h <;> simp only [go_sem, Nat.reduceEqDiff, Nat.reduceLT, Nat.reduceLeDiff, Nat.reduceAdd, Nat.reduceSub, Nat.reduceMul, Nat.reduceBEq, ↓reduceIte, reduceCtorEq, Int.reduceLT, Int.reduceToNat, UInt8.reduceToNat, Int.reduceLE, Int.reduceBEq, Int.reduceBNe, Int.reduceAdd, Int.reduceSub, Int.reduceMul, Int.reduceNeg, e1, t1, e8, e9, e10, q, g0, z0, ht, n0, n1, n2, cImg2_at, spTarget_mv, Int.toNat_natCast, List.getElem?_map, List.length_map, Ins.v, h]) | (refine AB_of ?_ ?_ <;> intro h <;> simp only [go_sem, Nat.reduceEqDiff, Nat.reduceLT, Nat.reduceLeDiff, Nat.reduceAdd, Nat.reduceSub, Nat.reduceMul, Nat.reduceBEq, ↓reduceIte, reduceCtorEq, Int.reduceLT, Int.reduceToNat, UInt8.reduceToNat, Int.reduceLE, Int.reduceBEq, Int.reduceBNe, Int.reduceAdd, Int.reduceSub, Int.reduceMul, Int.reduceNeg, e1, t1, e8, e9, e10, q, g0, z0, ht, n0, n1, n2, cImg2_at, spTarget_mv, Int.toNat_natCast, List.getElem?_map, List.length_map, Ins.v, h]) | (refine A_draw_of [] [] (by kernel_rfl) ?_ <;> simp only [go_sem, Nat.reduceEqDiff, Nat.reduceLT, Nat.reduceLeDiff, Nat.reduceAdd, Nat.reduceSub, Nat.reduceMul, Nat.reduceBEq, ↓reduceIte, reduceCtorEq, Int.reduceLT, Int.reduceToNat, UInt8.reduceToNat, Int.reduceLE, Int.reduceBEq, Int.reduceBNe, Int.reduceAdd, Int.reduceSub, Int.reduceMul, Int.reduceNeg, e1, t1, e8, e9, e10, q, g0, z0, ht, n0, n1, n2, cImg2_at, spTarget_mv, Int.toNat_natCast, List.getElem?_map, List.length_map, Ins.v]))
    all_goals first
      | (refine ⟨⟨by simp [upd, e1], by simp [upd, t1], by simp [upd, e8], by simp [upd, e9], k + 1, by simp [upd], by omega, any_succ q ?_ hany⟩, by simp [upd, numOf, e10]; omega⟩
         simp_all [badI] <;> omega)
      | (rw [targs_bad q (by simp_all [badI] <;> omega)]
         refine fin_ret ?_
         simp only [resOf, Try.results16, Try.ntmps16, go_sem, Nat.reduceEqDiff, Nat.reduceLT, Nat.reduceLeDiff, Nat.reduceAdd, Nat.reduceSub, Nat.reduceMul, Nat.reduceBEq, ↓reduceIte, reduceCtorEq, Int.reduceLT, Int.reduceToNat, UInt8.reduceToNat, Int.reduceLE, Int.reduceBEq, Int.reduceBNe, Int.reduceAdd, Int.reduceSub, Int.reduceMul, Int.reduceNeg])
  · have hkl : k = p.code.length := by omega
    have g0 : decide ((k : Int) < p.code.length) = false := by simp; omega
    have h0 : targs p = 0 := by unfold targs targsB; rw [← hkl, hany]; rfl
    rw [h0]
    simp only [go_sem, Nat.reduceEqDiff, Nat.reduceLT, Nat.reduceLeDiff, Nat.reduceAdd, Nat.reduceSub, Nat.reduceMul, Nat.reduceBEq, ↓reduceIte, reduceCtorEq, Int.reduceLT, Int.reduceToNat, UInt8.reduceToNat, Int.reduceLE, Int.reduceBEq, Int.reduceBNe, Int.reduceAdd, Int.reduceSub, Int.reduceMul, Int.reduceNeg, e1, t1, e8, e9, e10, g0]
    repeat' (first | (refine AG_of ?_ ?_ <;> intro h <;> simp only [go_sem, Nat.reduceEqDiff, Nat.reduceLT, Nat.reduceLeDiff, Nat.reduceAdd, Nat.reduceSub, Nat.reduceMul, Nat.reduceBEq, ↓reduceIte, reduceCtorEq, Int.reduceLT, Int.reduceToNat, UInt8.reduceToNat, Int.reduceLE, Int.reduceBEq, Int.reduceBNe, Int.reduceAdd, Int.reduceSub, Int.reduceMul, Int.reduceNeg, e1, t1, e8, e9, e10, g0, h]) | (refine AB_of ?_ ?_ <;> intro h <;> simp only [go_sem, Nat.reduceEqDiff, Nat.reduceLT, Nat.reduceLeDiff, Nat.reduceAdd, Nat.reduceSub, Nat.reduceMul, Nat.reduceBEq, ↓reduceIte, reduceCtorEq, Int.reduceLT, Int.reduceToNat, UInt8.reduceToNat, Int.reduceLE, Int.reduceBEq, Int.reduceBNe, Int.reduceAdd, Int.reduceSub, Int.reduceMul, Int.reduceNeg, e1, t1, e8, e9, e10, g0, h]) | (refine A_draw_of [] [] (by kernel_rfl) ?_ <;> simp only [go_sem, Nat.reduceEqDiff, Nat.reduceLT, Nat.reduceLeDiff, Nat.reduceAdd, Nat.reduceSub, Nat.reduceMul, Nat.reduceBEq, ↓reduceIte, reduceCtorEq, Int.reduceLT, Int.reduceToNat, UInt8.reduceToNat, Int.reduceLE, Int.reduceBEq, Int.reduceBNe, Int.reduceAdd, Int.reduceSub, Int.reduceMul, Int.reduceNeg, e1, t1, e8, e9, e10, g0]))
    all_goals (first | refine fin_ret ?_ | refine fin_normal ?_)
    all_goals simp only [resOf, Try.results16, Try.ntmps16, go_sem, Nat.reduceEqDiff, Nat.reduceLT, Nat.reduceLeDiff, Nat.reduceAdd, Nat.reduceSub, Nat.reduceMul, Nat.reduceBEq, ↓reduceIte, reduceCtorEq, Int.reduceLT, Int.reduceToNat, UInt8.reduceToNat, Int.reduceLE, Int.reduceBEq, Int.reduceBNe, Int.reduceAdd, Int.reduceSub, Int.reduceMul, Int.reduceNeg]
end Go.Proofs.Ytecckfhmgnlmnaa
