/-
The reference's right instructions and targets by the plain reckoning. No condition.
-/
import Derived.Test.YtkfmecmmbnehjaaGreatO1
namespace Go.Proofs.YtkfmecmmbnehjaaGreat
set_option linter.unusedSimpArgs false
set_option linter.unusedVariables false

def cImg1 : Orc := upd (upd (upd cImg0 55 (some spForm)) 92 (some spHas)) 94 (some spReg)
theorem cImg1_ok : ∀ g sp, cImg1 g = some sp → Impl Tryz.prog g sp := orc_upd (orc_upd (orc_upd cImg0_ok rform_impl) rhas_impl) rreg_impl
theorem cImg1_at : cImg1 55 = some spForm ∧ cImg1 92 = some spHas ∧ cImg1 94 = some spReg := ⟨rfl, rfl, rfl⟩
theorem spHas_mv : spHas.mv = [] := rfl
theorem spHas_fn (f : Int) : spHas.fn [.s (.int .i64 f)] = some (.tup [.s (.bool (hasDB f)), .s (.bool (hasAB f)), .s (.bool (hasBB f)), .s (.bool (hasImmB f))]) := rfl
theorem spReg_mv : spReg.mv = [] := rfl
theorem spReg_fn (n : Int) (b : Bool) : spReg.fn [.s (.int .i64 n), .s (.bool b)] = some (.s (.bool (regB n b))) := rfl

set_option maxHeartbeats 4000000 in
set_option maxRecDepth 20000 in
theorem rright_impl : Impl Tryz.prog 61 spRight := by
  refine impl_walk mixed cImg1_ok eqT_ok Tryz.func61 rfl Tryz.ntmps61 (by kernel_rfl) ?_
  intro xs r h
  unfold spRight at h
  simp only at h
  (try split at h) <;> try (cases (show none = some r from h); done)
  rename_i op d a b imm
  cases h
  refine ⟨by simp, ?_⟩
  simp only [go_sem, seval, eq_self, reduceCtorEq, cImg1_at, spForm_mv, spForm_fn, spHas_mv, spHas_fn, spReg_mv, spReg_fn]
  repeat' ((first | (refine AG_of ?_ ?_ <;> intro h) | (refine AB_of ?_ ?_ <;> intro h) | (refine A_draw_of [] [] (by kernel_rfl) ?_ <;> have h := mark)) <;> simp only [go_sem, seval, eq_self, reduceCtorEq, cImg1_at, spForm_mv, spForm_fn, spHas_mv, spHas_fn, spReg_mv, spReg_fn, h])
  all_goals (first | refine fin_ret ?_ | refine fin_normal ?_)
  all_goals simp only [resOf, Tryz.results61, Tryz.ntmps61, go_sem, seval, eq_self, reduceCtorEq]
  all_goals
    rw [← refRight_eq]
    simp_all [refRightB, shiftB, loB, hiB] <;> omega

/-- a branch that leads out of the code -/
def badI (len : Nat) (n : Nat) (i : Ins) : Bool := (form i.op == 6 || form i.op == 7) && (decide ((n : Int) + i.imm < 0) || decide ((len : Int) ≤ n + i.imm))
def badAt (p : Prg) (n : Nat) : Bool := match p.code[n]? with
  | some i => badI p.code.length n i
  | none => false
def targsB (p : Prg) : Bool := (List.range p.code.length).any (badAt p)
def targs (p : Prg) : Int := if targsB p then 4 else 0
theorem targs_bad {p : Prg} {k : Nat} {i : Ins} (h : p.code[k]? = some i) (hb : badI p.code.length k i = true) : targs p = 4 := by
  have hk : k < p.code.length := (List.getElem?_eq_some_iff.1 h).1
  unfold targs targsB
  rw [if_pos]
  exact List.any_eq_true.2 ⟨k, by simpa using hk, by simp [badAt, h, hb]⟩
theorem any_succ {p : Prg} {k : Nat} {i : Ins} (h : p.code[k]? = some i) (hb : badI p.code.length k i = false) (ha : (List.range k).any (badAt p) = false) : (List.range (k + 1)).any (badAt p) = false := by
  rw [List.range_succ, List.any_append, ha]
  simp [badAt, h, hb]

def spTargets : Spec := ⟨[], fun xs => match xs with
  | [x] => (prgOf x).bind fun p => if p.code.length ≤ 1000000000 then some (.s (.int .i64 (targs p))) else none
  | _ => none⟩

def cImg2 : Orc := upd cImg1 79 (some spTarget)
theorem cImg2_ok : ∀ g sp, cImg2 g = some sp → Impl Tryz.prog g sp := orc_upd cImg1_ok target_impl
theorem cImg2_at : cImg2 79 = some spTarget := rfl
theorem spTarget_mv : spTarget.mv = [] := rfl

def targI (p : Prg) (s : S) : Prop :=
  s.env 1 = .ptr 1 1 0 ∧ s.st 1 = ⟨1, .box [.lst false 5 (p.code.map Ins.v), .s (.int .i64 p.size), .lst false 1 (p.data.map u8v)]⟩ ∧ s.env 8 = .lst false 5 (p.code.map Ins.v) ∧ s.env 9 = .s (.int .i64 p.code.length) ∧
  ∃ k : Nat, s.env 10 = .s (.int .i64 k) ∧ k ≤ p.code.length ∧ (List.range k).any (badAt p) = false

set_option maxHeartbeats 2000000 in
theorem targets_impl : Impl Tryz.prog 97 spTargets := by
  refine impl_walk2 mixed cImg2_ok eqT_ok Tryz.func97 rfl Tryz.ntmps97 (by kernel_rfl) ?_
  intro xs r h
  unfold spTargets at h
  simp only at h
  (try split at h) <;> try (cases (show none = some r from h); done)
  rename_i x
  obtain ⟨p, hp, h3⟩ := Option.bind_eq_some_iff.1 h
  clear h
  split at h3
  case isFalse => cases h3
  rename_i hlen
  cases h3
  refine ⟨_, prg_args hp _, by simp, ?_⟩
  simp only [go_sem, seval, eq_self, reduceCtorEq, Prg.v, List.length_map]
  repeat' ((first | (refine AG_of ?_ ?_ <;> intro h) | (refine AB_of ?_ ?_ <;> intro h) | (refine A_draw_of [] [] (by kernel_rfl) ?_ <;> have h := mark)) <;> simp only [go_sem, seval, eq_self, reduceCtorEq, Prg.v, List.length_map, h])
  refine A_loop (targI p) (fun s => p.code.length - (numOf (s.env 10)).toNat) ?_ ?_
  · refine ⟨by simp [upd], by simp [upd], by simp [upd], by simp [upd], 0, by simp [upd], by omega, rfl⟩
  intro s hs
  obtain ⟨e1, t1, e8, e9, k, e10, hk, hany⟩ := hs
  rcases Nat.lt_or_ge k p.code.length with hlt | hge
  · obtain ⟨⟨op, d, a, b, imm⟩, q⟩ : ∃ i, p.code[k]? = some i := ⟨p.code[k], List.getElem?_eq_getElem hlt⟩
    have g0 : decide ((k : Int) < p.code.length) = true := by simp; omega
    have z0 := Int.natCast_nonneg k
    have ht : spTarget.fn [.agg [.lst false 5 (p.code.map Ins.v), .s (.int .i64 p.size), .lst false 1 (p.data.map u8v)], .s (.int .i64 k)] = some (.tup [.s (.int .i64 (IntKind.i64.wrap (k + imm))), .s (.bool (form op == 6 || form op == 7))]) := by
      have := prgOf_v p
      unfold Prg.v at this
      simp [spTarget, this, q]
    have n0 : IntKind.i64.wrap (0 - (k : Int)) = -(k : Int) := by rw [w_i64 (by omega) (by omega)]; omega
    have n1 : IntKind.i64.wrap ((p.code.length : Int) - k) = p.code.length - k := w_i64 (by omega) (by omega)
    have n2 : IntKind.i64.wrap ((k : Int) + 1) = (k + 1 : Nat) := by rw [w_i64 (by omega) (by omega)]; omega
    simp only [go_sem, seval, eq_self, reduceCtorEq, e1, t1, e8, e9, e10, q, g0, z0, ht, n0, n1, n2, cImg2_at, spTarget_mv, Int.toNat_natCast, List.getElem?_map, List.length_map, Ins.v]
    repeat' ((first | (refine AG_of ?_ ?_ <;> intro h) | (refine AB_of ?_ ?_ <;> intro h) | (refine A_draw_of [] [] (by kernel_rfl) ?_ <;> have h := mark)) <;> simp only [go_sem, seval, eq_self, reduceCtorEq, e1, t1, e8, e9, e10, q, g0, z0, ht, n0, n1, n2, cImg2_at, spTarget_mv, Int.toNat_natCast, List.getElem?_map, List.length_map, Ins.v, h])
    all_goals first
      | (refine ⟨⟨by simp [upd, e1], by simp [upd, t1], by simp [upd, e8], by simp [upd, e9], k + 1, by simp [upd], by omega, any_succ q ?_ hany⟩, by simp [upd, numOf, e10]; omega⟩
         simp_all [badI] <;> omega)
      | (rw [targs_bad q (by simp_all [badI] <;> omega)]
         refine fin_ret ?_
         simp only [resOf, Tryz.results97, Tryz.ntmps97, go_sem, seval, eq_self, reduceCtorEq])
  · have hkl : k = p.code.length := by omega
    have g0 : decide ((k : Int) < p.code.length) = false := by simp; omega
    have h0 : targs p = 0 := by unfold targs targsB; rw [← hkl, hany]; rfl
    rw [h0]
    simp only [go_sem, seval, eq_self, reduceCtorEq, e1, t1, e8, e9, e10, g0]
    repeat' ((first | (refine AG_of ?_ ?_ <;> intro h) | (refine AB_of ?_ ?_ <;> intro h) | (refine A_draw_of [] [] (by kernel_rfl) ?_ <;> have h := mark)) <;> simp only [go_sem, seval, eq_self, reduceCtorEq, e1, t1, e8, e9, e10, g0, h])
    all_goals (first | refine fin_ret ?_ | refine fin_normal ?_)
    all_goals simp only [resOf, Tryz.results97, Tryz.ntmps97, go_sem, seval, eq_self, reduceCtorEq]

def rT (len : Nat) (n : Int) (i : Ins) : Int :=
  if (form i.op = 6 ∨ form i.op = 7) ∧ -8192 ≤ i.imm ∧ i.imm ≤ 8191 ∧ 0 ≤ n + i.imm ∧ n + i.imm < len then n + i.imm else -1
def spRTarget : Spec := ⟨[], fun xs => match xs with
  | [x, .s (.int .i64 n)] => (prgOf x).bind fun p => if 0 ≤ n ∧ p.code.length ≤ 1000000000 then (p.code[n.toNat]?).bind fun i => some (.s (.int .i64 (rT p.code.length n i))) else none
  | _ => none⟩

set_option maxHeartbeats 1000000 in
theorem rtarget_impl : Impl Tryz.prog 60 spRTarget := by
  refine impl_walk2 mixed cImg1_ok eqT_ok Tryz.func60 rfl Tryz.ntmps60 (by kernel_rfl) ?_
  intro xs r h
  unfold spRTarget at h
  simp only at h
  (try split at h) <;> try (cases (show none = some r from h); done)
  rename_i x n
  obtain ⟨p, hp, h3⟩ := Option.bind_eq_some_iff.1 h
  clear h
  split at h3
  case isFalse => cases h3
  rename_i hc
  obtain ⟨h0, hlen⟩ := hc
  obtain ⟨⟨op, d, a, b, imm⟩, hi, h4⟩ := Option.bind_eq_some_iff.1 h3
  cases h4
  have hn : n.toNat < p.code.length := (List.getElem?_eq_some_iff.1 hi).1
  refine ⟨_, prg_args hp _, by simp, ?_⟩
  clear h3
  have hrT : rT p.code.length n ⟨op, d, a, b, imm⟩ = if (form op = 6 ∨ form op = 7) ∧ -8192 ≤ imm ∧ imm ≤ 8191 ∧ 0 ≤ n + imm ∧ n + imm < p.code.length then n + imm else -1 := rfl
  by_cases H : (form op = 6 ∨ form op = 7) ∧ -8192 ≤ imm ∧ imm ≤ 8191 ∧ 0 ≤ n + imm ∧ n + imm < p.code.length
  · rw [if_pos H] at hrT
    rw [hrT]
    obtain ⟨g1, g2, g3, g4, g5⟩ := H
    have hw : IntKind.i64.wrap (n + imm) = n + imm := w_i64 (by omega) (by omega)
    simp only [go_sem, seval, eq_self, reduceCtorEq, cImg1_at, spForm_mv, spForm_fn, Prg.v, List.getElem?_map, hi, h0, Ins.v, List.length_map, hw]
    repeat' ((first | (refine AG_of ?_ ?_ <;> intro h) | (refine AB_of ?_ ?_ <;> intro h) | (refine A_draw_of [] [] (by kernel_rfl) ?_ <;> have h := mark)) <;> simp only [go_sem, seval, eq_self, reduceCtorEq, cImg1_at, spForm_mv, spForm_fn, Prg.v, List.getElem?_map, hi, h0, Ins.v, List.length_map, hw, h])
    all_goals (first | refine fin_ret ?_ | refine fin_normal ?_)
    all_goals simp only [resOf, Tryz.results60, Tryz.ntmps60, go_sem, seval, eq_self, reduceCtorEq]
    all_goals (exfalso; simp only [decide_eq_true_eq, decide_eq_false_iff_not, bne_iff_ne, ne_eq, bne_eq_false_iff_eq, Int.not_lt, Int.not_le, Bool.not_true, Bool.not_false] at *; omega)
  · rw [if_neg H] at hrT
    rw [hrT]
    simp only [go_sem, seval, eq_self, reduceCtorEq, cImg1_at, spForm_mv, spForm_fn, Prg.v, List.getElem?_map, hi, h0, Ins.v, List.length_map]
    repeat' ((first | (refine AG_of ?_ ?_ <;> intro h) | (refine AB_of ?_ ?_ <;> intro h) | (refine A_draw_of [] [] (by kernel_rfl) ?_ <;> have h := mark)) <;> simp only [go_sem, seval, eq_self, reduceCtorEq, cImg1_at, spForm_mv, spForm_fn, Prg.v, List.getElem?_map, hi, h0, Ins.v, List.length_map, h])
    all_goals (first | refine fin_ret ?_ | refine fin_normal ?_)
    all_goals simp only [resOf, Tryz.results60, Tryz.ntmps60, go_sem, seval, eq_self, reduceCtorEq]
    all_goals
      exfalso
      simp only [decide_eq_true_eq, decide_eq_false_iff_not, bne_iff_ne, ne_eq, bne_eq_false_iff_eq, Int.not_lt, Int.not_le, Bool.not_true, Bool.not_false] at *
      have hw : IntKind.i64.wrap (n + imm) = n + imm := w_i64 (by omega) (by omega)
      simp only [hw] at *
      omega

def spRTargets : Spec := ⟨[], fun xs => match xs with
  | [x] => (prgOf x).bind fun p => if p.code.length ≤ 8000 then some (.s (.int .i64 (targs p))) else none
  | _ => none⟩
def cImg3 : Orc := upd cImg2 60 (some spRTarget)
theorem cImg3_ok : ∀ g sp, cImg3 g = some sp → Impl Tryz.prog g sp := orc_upd cImg2_ok rtarget_impl
theorem cImg3_at : cImg3 60 = some spRTarget ∧ cImg3 55 = some spForm := ⟨rfl, rfl⟩
theorem spRTarget_mv : spRTarget.mv = [] := rfl

def rtargI (p : Prg) (s : S) : Prop :=
  s.env 1 = .ptr 1 1 0 ∧ s.st 1 = ⟨1, .box [.lst false 5 (p.code.map Ins.v), .s (.int .i64 p.size), .lst false 1 (p.data.map u8v)]⟩ ∧
  ∃ k : Nat, s.env 3 = .s (.int .i64 k) ∧ k ≤ p.code.length ∧ (List.range k).any (badAt p) = false

set_option maxHeartbeats 2000000 in
theorem rtargets_impl : Impl Tryz.prog 91 spRTargets := by
  refine impl_walk2 mixed cImg3_ok eqT_ok Tryz.func91 rfl Tryz.ntmps91 (by kernel_rfl) ?_
  intro xs r h
  unfold spRTargets at h
  simp only at h
  (try split at h) <;> try (cases (show none = some r from h); done)
  rename_i x
  obtain ⟨p, hp, h3⟩ := Option.bind_eq_some_iff.1 h
  clear h
  split at h3
  case isFalse => cases h3
  rename_i hlen
  cases h3
  refine ⟨_, prg_args hp _, by simp, ?_⟩
  simp only [go_sem, seval, eq_self, reduceCtorEq, Prg.v, List.length_map]
  repeat' ((first | (refine AG_of ?_ ?_ <;> intro h) | (refine AB_of ?_ ?_ <;> intro h) | (refine A_draw_of [] [] (by kernel_rfl) ?_ <;> have h := mark)) <;> simp only [go_sem, seval, eq_self, reduceCtorEq, Prg.v, List.length_map, h])
  refine A_loop (rtargI p) (fun s => p.code.length - (numOf (s.env 3)).toNat) ?_ ?_
  · refine ⟨by simp [upd], by simp [upd], 0, by simp [upd], by omega, rfl⟩
  intro s hs
  obtain ⟨e1, t1, k, e3, hk, hany⟩ := hs
  rcases Nat.lt_or_ge k p.code.length with hlt | hge
  · obtain ⟨⟨op, d, a, b, imm⟩, q⟩ : ∃ i, p.code[k]? = some i := ⟨p.code[k], List.getElem?_eq_getElem hlt⟩
    have g0 : decide ((k : Int) < p.code.length) = true := by simp; omega
    have z0 := Int.natCast_nonneg k
    have ht : spRTarget.fn [.agg [.lst false 5 (p.code.map Ins.v), .s (.int .i64 p.size), .lst false 1 (p.data.map u8v)], .s (.int .i64 k)] = some (.s (.int .i64 (rT p.code.length k ⟨op, d, a, b, imm⟩))) := by
      have := prgOf_v p
      unfold Prg.v at this
      simp [spRTarget, this, q]
      omega
    have n2 : IntKind.i64.wrap ((k : Int) + 1) = (k + 1 : Nat) := by rw [w_i64 (by omega) (by omega)]; omega
    have hb : badI p.code.length k ⟨op, d, a, b, imm⟩ = ((form op == 6 || form op == 7) && decide (rT p.code.length k ⟨op, d, a, b, imm⟩ < 0)) := by
      unfold badI rT
      simp only
      rw [Bool.eq_iff_iff]
      simp only [Bool.and_eq_true, Bool.or_eq_true, beq_iff_eq, decide_eq_true_eq]
      split <;> omega
    simp only [go_sem, seval, eq_self, reduceCtorEq, e1, t1, e3, q, g0, z0, ht, n2, cImg3_at, spRTarget_mv, spForm_mv, spForm_fn, Int.toNat_natCast, List.getElem?_map, List.length_map, Ins.v]
    repeat' ((first | (refine AG_of ?_ ?_ <;> intro h) | (refine AB_of ?_ ?_ <;> intro h) | (refine A_draw_of [] [] (by kernel_rfl) ?_ <;> have h := mark)) <;> simp only [go_sem, seval, eq_self, reduceCtorEq, e1, t1, e3, q, g0, z0, ht, n2, cImg3_at, spRTarget_mv, spForm_mv, spForm_fn, Int.toNat_natCast, List.getElem?_map, List.length_map, Ins.v, h])
    all_goals first
      | (refine ⟨⟨by simp [upd, e1], by simp [upd, t1], k + 1, by simp [upd], by omega, any_succ q ?_ hany⟩, by simp [upd, numOf, e3]; omega⟩
         rw [hb]; simp_all; done)
      | (rw [targs_bad q (by rw [hb]; simp_all; done)]
         refine fin_ret ?_
         simp only [resOf, Tryz.results91, Tryz.ntmps91, go_sem, seval, eq_self, reduceCtorEq])
  · have hkl : k = p.code.length := by omega
    have g0 : decide ((k : Int) < p.code.length) = false := by simp; omega
    have h0 : targs p = 0 := by unfold targs targsB; rw [← hkl, hany]; rfl
    rw [h0]
    simp only [go_sem, seval, eq_self, reduceCtorEq, e1, t1, e3, g0, List.length_map]
    repeat' ((first | (refine AG_of ?_ ?_ <;> intro h) | (refine AB_of ?_ ?_ <;> intro h) | (refine A_draw_of [] [] (by kernel_rfl) ?_ <;> have h := mark)) <;> simp only [go_sem, seval, eq_self, reduceCtorEq, e1, t1, e3, g0, List.length_map, h])
    all_goals (first | refine fin_ret ?_ | refine fin_normal ?_)
    all_goals simp only [resOf, Tryz.results91, Tryz.ntmps91, go_sem, seval, eq_self, reduceCtorEq]

def headB (p : Prg) : Bool := decide (1 ≤ (p.code.length : Int)) && decide ((p.code.length : Int) ≤ 2000) && decide (0 ≤ p.size) && decide (p.size ≤ 65536) && decide ((p.data.length : Int) ≤ p.size)
def rightP (p : Prg) : Bool := headB p && p.code.all rightB && !targsB p
def spRightP : Spec := ⟨[], fun xs => match xs with
  | [x] => (prgOf x).bind fun p => some (.s (.bool (rightP p)))
  | _ => none⟩
def cImg4 : Orc := upd (upd cImg3 91 (some spRTargets)) 61 (some spRight)
theorem cImg4_ok : ∀ g sp, cImg4 g = some sp → Impl Tryz.prog g sp := orc_upd (orc_upd cImg3_ok rtargets_impl) rright_impl
theorem cImg4_at : cImg4 91 = some spRTargets ∧ cImg4 61 = some spRight := ⟨rfl, rfl⟩
theorem spRTargets_mv : spRTargets.mv = [] := rfl

def rpI (p : Prg) (s : S) : Prop :=
  s.env 1 = .ptr 1 1 0 ∧ s.st 1 = ⟨1, .box [.lst false 5 (p.code.map Ins.v), .s (.int .i64 p.size), .lst false 1 (p.data.map u8v)]⟩ ∧
  ∃ k : Nat, s.env 3 = .s (.int .i64 k) ∧ k ≤ p.code.length ∧ (p.code.take k).all rightB = true

set_option maxHeartbeats 2000000 in
theorem rrightp_impl : Impl Tryz.prog 54 spRightP := by
  refine impl_walk2 mixed cImg4_ok eqT_ok Tryz.func54 rfl Tryz.ntmps54 (by kernel_rfl) ?_
  intro xs r h
  unfold spRightP at h
  simp only at h
  (try split at h) <;> try (cases (show none = some r from h); done)
  rename_i x
  obtain ⟨p, hp, h3⟩ := Option.bind_eq_some_iff.1 h
  clear h
  cases h3
  refine ⟨_, prg_args hp _, by simp, ?_⟩
  by_cases H : headB p = true
  case neg =>
    have hr : rightP p = false := by unfold rightP; simp [H]
    rw [hr]
    simp only [go_sem, seval, eq_self, reduceCtorEq, Prg.v, List.length_map]
    repeat' ((first | (refine AG_of ?_ ?_ <;> intro h) | (refine AB_of ?_ ?_ <;> intro h) | (refine A_draw_of [] [] (by kernel_rfl) ?_ <;> have h := mark)) <;> simp only [go_sem, seval, eq_self, reduceCtorEq, Prg.v, List.length_map, h])
    all_goals first
      | (refine fin_ret ?_; simp only [resOf, Tryz.results54, Tryz.ntmps54, go_sem, seval, eq_self, reduceCtorEq]; done)
      | (exfalso; apply H; simp_all [headB] <;> omega)
  have H' := H
  simp only [headB, Bool.and_eq_true, decide_eq_true_eq] at H'
  obtain ⟨⟨⟨⟨q1, q2⟩, q3⟩, q4⟩, q5⟩ := H'
  have g1 : decide ((p.code.length : Int) < 1) = false := by simp; omega
  have g2 : decide (2000 < (p.code.length : Int)) = false := by simp; omega
  have g3 : decide (p.size < 0) = false := by simp; omega
  have g4 : decide (65536 < p.size) = false := by simp; omega
  have g5 : decide (p.size < (p.data.length : Int)) = false := by simp; omega
  simp only [go_sem, seval, eq_self, reduceCtorEq, Prg.v, List.length_map, g1, g2, g3, g4, g5]
  repeat' ((first | (refine AG_of ?_ ?_ <;> intro h) | (refine AB_of ?_ ?_ <;> intro h) | (refine A_draw_of [] [] (by kernel_rfl) ?_ <;> have h := mark)) <;> simp only [go_sem, seval, eq_self, reduceCtorEq, Prg.v, List.length_map, g1, g2, g3, g4, g5, h])
  refine A_loop (rpI p) (fun s => p.code.length - (numOf (s.env 3)).toNat) ?_ ?_
  · refine ⟨by simp [upd], by simp [upd], 0, by simp [upd], by omega, rfl⟩
  intro s hs
  obtain ⟨e1, t1, k, e3, hk, hall⟩ := hs
  rcases Nat.lt_or_ge k p.code.length with hlt | hge
  · obtain ⟨⟨op, d, a, b, imm⟩, q⟩ : ∃ i, p.code[k]? = some i := ⟨p.code[k], List.getElem?_eq_getElem hlt⟩
    have g0 : decide ((k : Int) < p.code.length) = true := by simp; omega
    have z0 := Int.natCast_nonneg k
    have n2 : IntKind.i64.wrap ((k : Int) + 1) = (k + 1 : Nat) := by rw [w_i64 (by omega) (by omega)]; omega
    have htk : p.code.take (k + 1) = p.code.take k ++ [⟨op, d, a, b, imm⟩] := by
      rw [List.take_add_one, q]; rfl
    have hmem : (⟨op, d, a, b, imm⟩ : Ins) ∈ p.code := List.mem_of_getElem? q
    simp only [go_sem, seval, eq_self, reduceCtorEq, e1, t1, e3, q, g0, z0, n2, cImg4_at, spRight_mv, spRight_fn, Int.toNat_natCast, List.getElem?_map, List.length_map, Ins.v]
    repeat' ((first | (refine AG_of ?_ ?_ <;> intro h) | (refine AB_of ?_ ?_ <;> intro h) | (refine A_draw_of [] [] (by kernel_rfl) ?_ <;> have h := mark)) <;> simp only [go_sem, seval, eq_self, reduceCtorEq, e1, t1, e3, q, g0, z0, n2, cImg4_at, spRight_mv, spRight_fn, Int.toNat_natCast, List.getElem?_map, List.length_map, Ins.v, h])
    all_goals first
      | (refine ⟨⟨by simp [upd, e1], by simp [upd, t1], k + 1, by simp [upd], by omega, ?_⟩, by simp [upd, numOf, e3]; omega⟩
         rw [htk, List.all_append, hall]; simp_all; done)
      | (have hr : rightP p = false := by
           have : p.code.all rightB = false := by
             rw [List.all_eq_false]
             exact ⟨_, hmem, by simp_all⟩
           unfold rightP; simp [this]
         rw [hr]
         refine fin_ret ?_
         simp only [resOf, Tryz.results54, Tryz.ntmps54, go_sem, seval, eq_self, reduceCtorEq])
  · have hkl : k = p.code.length := by omega
    have g0 : decide ((k : Int) < p.code.length) = false := by simp; omega
    have ht : spRTargets.fn [.agg [.lst false 5 (p.code.map Ins.v), .s (.int .i64 p.size), .lst false 1 (p.data.map u8v)]] = some (.s (.int .i64 (targs p))) := by
      have := prgOf_v p
      unfold Prg.v at this
      simp [spRTargets, this]
      omega
    simp only [go_sem, seval, eq_self, reduceCtorEq, e1, t1, e3, g0, ht, cImg4_at, spRTargets_mv, List.length_map]
    repeat' ((first | (refine AG_of ?_ ?_ <;> intro h) | (refine AB_of ?_ ?_ <;> intro h) | (refine A_draw_of [] [] (by kernel_rfl) ?_ <;> have h := mark)) <;> simp only [go_sem, seval, eq_self, reduceCtorEq, e1, t1, e3, g0, ht, cImg4_at, spRTargets_mv, List.length_map, h])
    all_goals (first | refine fin_ret ?_ | refine fin_normal ?_)
    all_goals simp only [resOf, Tryz.results54, Tryz.ntmps54, go_sem, seval, eq_self, reduceCtorEq]
    all_goals
      have ha : p.code.all rightB = true := by rw [hkl, List.take_length] at hall; exact hall
      unfold rightP targs
      rw [H, ha]
      cases targsB p <;> rfl

end Go.Proofs.YtkfmecmmbnehjaaGreat
