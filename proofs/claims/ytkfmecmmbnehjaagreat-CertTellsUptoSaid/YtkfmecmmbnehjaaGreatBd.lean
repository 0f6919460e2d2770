/-
The reference's Leaders by the plain reckoning. No condition.
-/
import Derived.Test.YtkfmecmmbnehjaaGreatBc
namespace Go.Proofs.YtkfmecmmbnehjaaGreat
set_option linter.unusedSimpArgs false
set_option linter.unusedVariables false

def bv (b : Bool) : V := .s (.bool b)
def spEnds : Spec := ⟨[], fun xs => match xs with
  | [.agg [.s (.int .i64 op), .s (.int .i64 d), .s (.int .i64 a), .s (.int .i64 b), .s (.int .i64 imm)]] => some (.s (.bool (endB ⟨op, d, a, b, imm⟩)))
  | _ => none⟩
theorem spEnds_mv : spEnds.mv = [] := rfl
theorem spEnds_fn (op d a b imm : Int) : spEnds.fn [.agg [.s (.int .i64 op), .s (.int .i64 d), .s (.int .i64 a), .s (.int .i64 b), .s (.int .i64 imm)]] = some (.s (.bool (endB ⟨op, d, a, b, imm⟩))) := rfl
theorem cImg8_b : cImg8 55 = some spForm ∧ cImg8 78 = some spForm ∧ cImg8 60 = some spRTarget ∧ cImg8 54 = some spRightP := ⟨rfl, rfl, rfl, rfl⟩
theorem ends_impl : Impl Tryz.prog 93 spEnds := by
  refine impl_walk mixed cImg8_ok eqT_ok Tryz.func93 rfl Tryz.ntmps93 (by kernel_rfl) ?_
  intro xs r h
  unfold spEnds at h
  simp only at h
  (try split at h) <;> try (cases (show none = some r from h); done)
  rename_i op d a b imm
  cases h
  refine ⟨by simp, ?_⟩
  simp only [go_sem, seval, eq_self, reduceCtorEq, cImg8_b, spForm_mv, spForm_fn]
  repeat' ((first | (refine AG_of ?_ ?_ <;> intro h) | (refine AB_of ?_ ?_ <;> intro h) | (refine A_draw_of [] [] (by kernel_rfl) ?_ <;> have h := mark)) <;> simp only [go_sem, seval, eq_self, reduceCtorEq, cImg8_b, spForm_mv, spForm_fn, h])
  all_goals (first | refine fin_ret ?_ | refine fin_normal ?_)
  all_goals simp only [resOf, Tryz.results93, Tryz.ntmps93, go_sem, seval, eq_self, reduceCtorEq]
  all_goals simp_all [endB, brB]
def cB2 : Orc := upd cImg8 93 (some spEnds)
theorem cB2_ok : ∀ g sp, cB2 g = some sp → Impl Tryz.prog g sp := orc_upd cImg8_ok ends_impl
theorem cB2_at : cB2 93 = some spEnds ∧ cB2 60 = some spRTarget ∧ cB2 54 = some spRightP := ⟨rfl, rfl, rfl⟩

def flF (p : Prg) (k : Nat) : List Bool := (List.range p.code.length).map (flagAt p k)
theorem flF_len (p : Prg) (k : Nat) : (flF p k).length = p.code.length := by simp [flF]
theorem flF_get (p : Prg) (k : Nat) {j : Nat} (h : j < p.code.length) : (flF p k)[j]? = some (flagAt p k j) := by
  unfold flF
  rw [List.getElem?_map, List.getElem?_range h]; rfl
theorem flF_zero (p : Prg) : (List.replicate p.code.length false).set 0 true = flF p 0 := by
  apply List.ext_getElem?
  intro j
  rcases Nat.lt_or_ge j p.code.length with h | h
  · rw [flF_get p 0 h, List.getElem?_set]
    split
    · rename_i e; subst e; simp [h, flagAt]
    · rename_i e
      rw [List.getElem?_replicate, if_pos h]
      have : (j == 0) = false := by simp; omega
      have h2 : decide (j ≤ 0) = false := by simp; omega
      simp [flagAt, this, h2]
      intro a b; omega
  · rw [List.getElem?_eq_none (by simpa using h), List.getElem?_eq_none (by rw [flF_len]; exact h)]
theorem flag_succ (p : Prg) (k j : Nat) : flagAt p (k + 1) j = (flagAt p k j || (tgt p k == some j) || (j == k + 1 && endAt p k)) := by
  unfold flagAt
  rw [List.range_succ, List.any_append]
  simp only [List.any_cons, List.any_nil, Bool.or_false]
  by_cases hj : j = k + 1
  · subst hj
    have : ¬ k + 1 ≤ k := by omega
    simp [this]
  · have e1 : decide (j ≤ k + 1) = decide (j ≤ k) := by rw [decide_eq_decide]; omega
    have e2 : (j == k + 1) = false := by simpa using hj
    rw [e1, e2]
    cases (j == 0) <;> cases (List.range k).any (fun n => tgt p n == some j) <;> cases (tgt p k == some j) <;> cases (decide (0 < j) && decide (j ≤ k) && endAt p (j - 1)) <;> rfl
/-- the flags behind an instruction -/
def flS (f : List Bool) (t : Option Nat) (e : Option Nat) : List Bool :=
  let f1 := match t with | some t => f.set t true | none => f
  match e with | some e => f1.set e true | none => f1
theorem flF_succ (p : Prg) (k : Nat) : flF p (k + 1) = flS (flF p k) (tgt p k) (if endAt p k = true ∧ k + 1 < p.code.length then some (k + 1) else none) := by
  apply List.ext_getElem?
  intro j
  have hl : (flS (flF p k) (tgt p k) (if endAt p k = true ∧ k + 1 < p.code.length then some (k + 1) else none)).length = p.code.length := by
    unfold flS
    cases tgt p k <;> simp only <;> split <;> simp [flF_len]
  rcases Nat.lt_or_ge j p.code.length with h | h
  · rw [flF_get p _ h, flag_succ]
    have h1 : (match tgt p k with | some t => (flF p k).set t true | none => flF p k)[j]? = some (flagAt p k j || (tgt p k == some j)) := by
      cases ht : tgt p k with
      | none => rw [flF_get p k h]; simp
      | some t =>
        rw [List.getElem?_set]
        split
        · rename_i e; subst e; simp [flF_len, h]
        · rename_i e
          rw [flF_get p k h]
          have : (some t == some j) = false := by simpa using e
          rw [this, Bool.or_false]
    unfold flS
    simp only
    by_cases he : endAt p k = true ∧ k + 1 < p.code.length
    · rw [if_pos he]
      simp only
      rw [List.getElem?_set]
      split
      · rename_i e
        subst e
        have : (match tgt p k with | some t => (flF p k).set t true | none => flF p k).length = p.code.length := by cases tgt p k <;> simp [flF_len]
        rw [this]
        simp [h, he.1]
      · rename_i e
        rw [h1]
        have : (j == k + 1) = false := by simp; omega
        rw [this]; simp
    · rw [if_neg he]
      simp only
      rw [h1]
      by_cases hj : j = k + 1
      · subst hj
        have : endAt p k = false := by cases hc : endAt p k with | false => rfl | true => exact absurd ⟨hc, h⟩ he
        rw [this]; simp
      · have : (j == k + 1) = false := by simpa using hj
        rw [this]; simp
  · rw [List.getElem?_eq_none (by rw [flF_len]; exact h), List.getElem?_eq_none (by rw [hl]; exact h)]
/-- a row of numbers that grows from nothing at a place -/
def RowN (x : V) (b : Nat) (k : Blk) (l : List Int) : Prop :=
  (l = [] ∧ x = .s (.slice none 0 0)) ∨ (l ≠ [] ∧ ∃ v, x = .sw b v l.length ∧ k = ⟨v, .row 1 3 (l.map iv)⟩)
theorem RowN.same {x x' : V} {b : Nat} {k k' : Blk} {l : List Int} (h : RowN x b k l) (hx : x' = x) (hk : k' = k) : RowN x' b k' l := by rw [hx, hk]; exact h
def firstL (p : Prg) (k : Nat) : List Int := ((List.range k).filter (isLead p)).map fun (k : Nat) => (k : Int)
theorem firstL_succ (p : Prg) (k : Nat) : firstL p (k + 1) = if isLead p k = true then firstL p k ++ [(k : Int)] else firstL p k := by
  unfold firstL
  rw [List.range_succ, List.filter_append, List.map_append]
  by_cases h : isLead p k = true
  · rw [if_pos h]; simp [List.filter_cons, h]
  · rw [if_neg h]; simp [List.filter_cons, h]
theorem firstL_len (p : Prg) (k : Nat) : (firstL p k).length ≤ k := by
  unfold firstL
  rw [List.length_map]
  have := List.length_filter_le (isLead p) (List.range k)
  simpa using this
def rlI1 (p : Prg) (v : Nat) (s : S) : Prop :=
  s.env 1 = .ptr 1 1 0 ∧ s.st 1 = ⟨1, .box (prgB p)⟩ ∧ s.env 3 = .sw 14 v p.code.length ∧ ∃ k : Nat, s.env 4 = .s (.int .i64 k) ∧ k ≤ p.code.length ∧ s.st 14 = ⟨v, .row 1 4 ((flF p k).map bv)⟩
def rlI2 (p : Prg) (v : Nat) (s : S) : Prop :=
  s.env 3 = .sw 14 v p.code.length ∧ s.st 14 = ⟨v, .row 1 4 ((flF p p.code.length).map bv)⟩ ∧ ∃ k : Nat, s.env 7 = .s (.int .i64 k) ∧ k ≤ p.code.length ∧ RowN (s.env 6) 63 (s.st 63) (firstL p k)
set_option maxHeartbeats 4000000 in
theorem rlead1_impl : Impl Tryz.prog 59 spLead1 := by
  refine impl_walk2 mixed cB2_ok eqT_ok Tryz.func59 rfl Tryz.ntmps59 (by kernel_rfl) ?_
  intro xs r h
  unfold spLead1 at h
  simp only at h
  (try split at h) <;> try (cases (show none = some r from h); done)
  rename_i x
  obtain ⟨p, hp, h3⟩ := Option.bind_eq_some_iff.1 h
  clear h
  refine ⟨_, (SeesL.cons (prgOf_sees hp) .nil).args, by simp, ?_⟩
  have hR := rightP_v p
  simp only [Prg.v] at hR
  cases c1 : rightP p
  · rw [c1] at hR h3
    cases h3
    simp only [go_sem, seval, eq_self, reduceCtorEq, Prg.v, cB2_at, spRightP_mv, hR]
    repeat' ((first | (refine AG_of ?_ ?_ <;> intro h) | (refine AB_of ?_ ?_ <;> intro h) | (refine A_draw_of [] [] (by kernel_rfl) ?_ <;> have h := mark)) <;> simp only [go_sem, seval, eq_self, reduceCtorEq, Prg.v, cB2_at, spRightP_mv, hR, h])
    all_goals (first | refine fin_ret ?_ | refine fin_normal ?_)
    all_goals simp only [resOf, Tryz.results59, Tryz.ntmps59, go_sem, seval, eq_self, reduceCtorEq]
    all_goals rfl
  rw [c1] at hR h3
  cases h3
  rw [if_pos rfl, leadC_eq c1]
  have hpl := right_len c1
  have m1 : (p.code.length : Int) ≤ 140737488355328 := by omega
  have m2 : (p.code.length : Int) ≤ 1000000 := by omega
  have m0 := Int.natCast_nonneg p.code.length
  have m3 : (0 : Int) < p.code.length := by omega
  have m4 : (0 : Nat) < p.code.length := by omega
  have hz : (List.replicate p.code.length (V.s (.bool false)))[0]? = some (.s (.bool false)) := by rw [List.getElem?_replicate, if_pos m4]
  have hst : (List.replicate p.code.length (V.s (.bool false))).set 0 (.s (.bool true)) = (flF p 0).map bv := by
    rw [← flF_zero, List.map_set, List.map_replicate]; rfl
  simp only [go_sem, seval, eq_self, reduceCtorEq, Prg.v, cB2_at, spRightP_mv, hR, m0, m1, m2, m3, m4, hz, hst, List.length_map, List.length_replicate, Int.toNat_natCast, Int.mul_one]
  repeat' ((first | (refine AG_of ?_ ?_ <;> intro h) | (refine AB_of ?_ ?_ <;> intro h) | (refine A_draw_of [] [] (by kernel_rfl) ?_ <;> have h := mark)) <;> simp only [go_sem, seval, eq_self, reduceCtorEq, Prg.v, cB2_at, spRightP_mv, hR, m0, m1, m2, m3, m4, hz, hst, List.length_map, List.length_replicate, Int.toNat_natCast, Int.mul_one, h])
  refine A_loop (rlI1 p 1) (fun s => p.code.length - (numOf (s.env 4)).toNat) ?_ ?_
  · exact ⟨by simp [upd], by simp [upd, prgB, V.unfr, V.unfrL, V.cells], by simp [upd, init], 0, by simp [upd], by omega, by simp [upd, init]⟩
  intro s hs
  obtain ⟨e1, t1, e3, k, e4, hk, t14⟩ := hs
  have hfl := flF_len p k
  rcases Nat.lt_or_ge k p.code.length with hlt | hge
  · obtain ⟨i, q⟩ : ∃ i, p.code[k]? = some i := ⟨p.code[k], List.getElem?_eq_getElem hlt⟩
    have g0 : decide ((k : Int) < p.code.length) = true := by simp; omega
    have z0 := Int.natCast_nonneg k
    have n2 : IntKind.i64.wrap ((k : Int) + 1) = (k + 1 : Nat) := by rw [w_i64 (by omega) (by omega)]; omega
    have hT := rtarget_v c1 q
    simp only [Prg.v] at hT
    have hs1 := flF_succ p k
    have ht : tgt p k = if brB i = true then some ((k : Int) + i.imm).toNat else none := by unfold tgt; rw [q]; rfl
    have he : endAt p k = endB i := by unfold endAt; rw [q]
    rw [ht, he] at hs1
    have hbd := (right_at c1 q).2
    have hE := spEnds_fn i.op i.d i.a i.b i.imm
    have z1 := Int.natCast_nonneg (k + 1)
    obtain ⟨F, hF⟩ : ∃ F, flF p k = F := ⟨_, rfl⟩
    rw [hF] at hs1 t14 hfl
    cases hb : brB i
    · rw [hb] at hs1 hT
      simp only [Bool.false_eq_true, if_false] at hs1 hT
      cases hen : endB i
      · rw [hen] at hs1
        simp only [Bool.false_eq_true, false_and, if_false, flS] at hs1
        have hE2 : endB ⟨i.op, i.d, i.a, i.b, i.imm⟩ = false := hen
        rw [hE2] at hE
        simp only [go_sem, seval, eq_self, reduceCtorEq, e1, t1, e3, e4, q, g0, z0, n2, hT, hE, prgB, Ins.v, cB2_at, spRTarget_mv, spEnds_mv, Int.toNat_natCast, List.getElem?_map, List.length_map]
        repeat' ((first | (refine AG_of ?_ ?_ <;> intro h) | (refine AB_of ?_ ?_ <;> intro h) | (refine A_draw_of [] [] (by kernel_rfl) ?_ <;> have h := mark)) <;> simp only [go_sem, seval, eq_self, reduceCtorEq, e1, t1, e3, e4, q, g0, z0, n2, hT, hE, prgB, Ins.v, cB2_at, spRTarget_mv, spEnds_mv, Int.toNat_natCast, List.getElem?_map, List.length_map, h])
        exact ⟨⟨by simp [upd, e1], by simp [upd, t1, prgB], by simp [upd, e3], k + 1, by simp [upd], by omega, by simp [upd, t14, hs1]⟩, by simp [upd, numOf, e4]; omega⟩
      · have hE2 : endB ⟨i.op, i.d, i.a, i.b, i.imm⟩ = true := hen
        rw [hE2] at hE
        rw [hen] at hs1
        by_cases hd : k + 1 < p.code.length
        · have gd : decide (((k + 1 : Nat) : Int) < p.code.length) = true := by simp; omega
          simp only [hd, and_self, if_true, flS] at hs1
          have g2 : ((k + 1 : Nat) : Int) < p.code.length := by omega
          obtain ⟨b0, qb⟩ : ∃ b, F[k + 1]? = some b := ⟨F[k + 1]'(by omega), List.getElem?_eq_getElem (by omega)⟩
          have hst2 : (F.map bv).set (k + 1) (.s (.bool true)) = (F.set (k + 1) true).map bv := by rw [List.map_set]; rfl
          rw [← hs1] at hst2
          simp only [go_sem, seval, eq_self, reduceCtorEq, e1, t1, e3, e4, t14, q, qb, g0, z0, z1, n2, hT, hE, gd, g2, hfl, hst2, prgB, bv, Ins.v, cB2_at, spRTarget_mv, spEnds_mv, Int.toNat_natCast, List.getElem?_map, List.length_map]
          repeat' ((first | (refine AG_of ?_ ?_ <;> intro h) | (refine AB_of ?_ ?_ <;> intro h) | (refine A_draw_of [] [] (by kernel_rfl) ?_ <;> have h := mark)) <;> simp only [go_sem, seval, eq_self, reduceCtorEq, e1, t1, e3, e4, t14, q, qb, g0, z0, z1, n2, hT, hE, gd, g2, hfl, hst2, prgB, bv, Ins.v, cB2_at, spRTarget_mv, spEnds_mv, Int.toNat_natCast, List.getElem?_map, List.length_map, h])
          exact ⟨⟨by simp [upd, e1], by simp [upd, t1, prgB], by simp [upd, e3], k + 1, by simp [upd], by omega, by simp [upd]⟩, by simp [upd, numOf, e4]; omega⟩
        · have gd : decide (((k + 1 : Nat) : Int) < p.code.length) = false := by simp; omega
          simp only [hd, and_false, if_false, flS] at hs1
          simp only [go_sem, seval, eq_self, reduceCtorEq, e1, t1, e3, e4, q, g0, z0, n2, hT, hE, gd, prgB, Ins.v, cB2_at, spRTarget_mv, spEnds_mv, Int.toNat_natCast, List.getElem?_map, List.length_map]
          repeat' ((first | (refine AG_of ?_ ?_ <;> intro h) | (refine AB_of ?_ ?_ <;> intro h) | (refine A_draw_of [] [] (by kernel_rfl) ?_ <;> have h := mark)) <;> simp only [go_sem, seval, eq_self, reduceCtorEq, e1, t1, e3, e4, q, g0, z0, n2, hT, hE, gd, prgB, Ins.v, cB2_at, spRTarget_mv, spEnds_mv, Int.toNat_natCast, List.getElem?_map, List.length_map, h])
          exact ⟨⟨by simp [upd, e1], by simp [upd, t1, prgB], by simp [upd, e3], k + 1, by simp [upd], by omega, by simp [upd, t14, hs1]⟩, by simp [upd, numOf, e4]; omega⟩
    · rw [hb] at hs1 hT
      have hbd2 := hbd hb
      obtain ⟨tn, htn⟩ : ∃ t : Nat, (k : Int) + i.imm = t := ⟨((k : Int) + i.imm).toNat, by omega⟩
      rw [htn, Int.toNat_natCast] at hs1
      rw [htn] at hT hbd2
      simp only [if_true] at hs1 hT
      have hen : endB i = true := by unfold endB; rw [hb]; rfl
      have hE2 : endB ⟨i.op, i.d, i.a, i.b, i.imm⟩ = true := hen
      rw [hE2] at hE
      rw [hen] at hs1
      have y0 := hbd2.1
      have y1 := hbd2.2
      have y2 : tn < p.code.length := by omega
      obtain ⟨b1, qt⟩ : ∃ b, F[tn]? = some b := ⟨F[tn]'(by omega), List.getElem?_eq_getElem (by omega)⟩
      have hst1 : (F.map bv).set tn (.s (.bool true)) = (F.set tn true).map bv := by rw [List.map_set]; rfl
      obtain ⟨F2, hF2⟩ : ∃ F2, F.set tn true = F2 := ⟨_, rfl⟩
      have hl2 : F2.length = p.code.length := by rw [← hF2, List.length_set]; exact hfl
      by_cases hd : k + 1 < p.code.length
      · have gd : decide (((k + 1 : Nat) : Int) < p.code.length) = true := by simp; omega
        simp only [hd, and_self, if_true, flS] at hs1
        rw [hF2] at hst1 hs1
        have g2 : ((k + 1 : Nat) : Int) < p.code.length := by omega
        obtain ⟨b0, qb⟩ : ∃ b, F2[k + 1]? = some b := ⟨F2[k + 1]'(by omega), List.getElem?_eq_getElem (by omega)⟩
        have hst2 : (F2.map bv).set (k + 1) (.s (.bool true)) = (F2.set (k + 1) true).map bv := by rw [List.map_set]; rfl
        rw [← hs1] at hst2
        simp only [go_sem, seval, eq_self, reduceCtorEq, e1, t1, e3, e4, t14, q, qt, qb, g0, z0, z1, y0, y1, n2, hT, hE, gd, g2, hfl, hl2, hst1, hst2, prgB, bv, Ins.v, cB2_at, spRTarget_mv, spEnds_mv, decide_true, Int.toNat_natCast, List.getElem?_map, List.length_map]
        repeat' ((first | (refine AG_of ?_ ?_ <;> intro h) | (refine AB_of ?_ ?_ <;> intro h) | (refine A_draw_of [] [] (by kernel_rfl) ?_ <;> have h := mark)) <;> simp only [go_sem, seval, eq_self, reduceCtorEq, e1, t1, e3, e4, t14, q, qt, qb, g0, z0, z1, y0, y1, n2, hT, hE, gd, g2, hfl, hl2, hst1, hst2, prgB, bv, Ins.v, cB2_at, spRTarget_mv, spEnds_mv, decide_true, Int.toNat_natCast, List.getElem?_map, List.length_map, h])
        exact ⟨⟨by simp [upd, e1], by simp [upd, t1, prgB], by simp [upd, e3], k + 1, by simp [upd], by omega, by simp [upd]⟩, by simp [upd, numOf, e4]; omega⟩
      · have gd : decide (((k + 1 : Nat) : Int) < p.code.length) = false := by simp; omega
        simp only [hd, and_false, if_false, flS] at hs1
        rw [hF2] at hst1 hs1
        rw [← hs1] at hst1
        simp only [go_sem, seval, eq_self, reduceCtorEq, e1, t1, e3, e4, t14, q, qt, g0, z0, y0, y1, n2, hT, hE, gd, hfl, hst1, prgB, bv, Ins.v, cB2_at, spRTarget_mv, spEnds_mv, decide_true, Int.toNat_natCast, List.getElem?_map, List.length_map]
        repeat' ((first | (refine AG_of ?_ ?_ <;> intro h) | (refine AB_of ?_ ?_ <;> intro h) | (refine A_draw_of [] [] (by kernel_rfl) ?_ <;> have h := mark)) <;> simp only [go_sem, seval, eq_self, reduceCtorEq, e1, t1, e3, e4, t14, q, qt, g0, z0, y0, y1, n2, hT, hE, gd, hfl, hst1, prgB, bv, Ins.v, cB2_at, spRTarget_mv, spEnds_mv, decide_true, Int.toNat_natCast, List.getElem?_map, List.length_map, h])
        exact ⟨⟨by simp [upd, e1], by simp [upd, t1, prgB], by simp [upd, e3], k + 1, by simp [upd], by omega, by simp [upd]⟩, by simp [upd, numOf, e4]; omega⟩
  · have hkl : k = p.code.length := by omega
    have g0 : decide ((k : Int) < p.code.length) = false := by simp; omega
    rw [hkl] at t14
    simp only [go_sem, seval, eq_self, reduceCtorEq, e1, t1, e3, e4, g0, prgB, List.length_map]
    repeat' ((first | (refine AG_of ?_ ?_ <;> intro h) | (refine AB_of ?_ ?_ <;> intro h) | (refine A_draw_of [] [] (by kernel_rfl) ?_ <;> have h := mark)) <;> simp only [go_sem, seval, eq_self, reduceCtorEq, e1, t1, e3, e4, g0, prgB, List.length_map, h])
    refine A_loop (rlI2 p 1) (fun s => p.code.length - (numOf (s.env 7)).toNat) ?_ ?_
    · exact ⟨by simp [upd, e3], by simp [upd, t14], 0, by simp [upd], by omega, .inl ⟨rfl, by simp [upd]⟩⟩
    clear e1 t1 e3 e4 t14 g0 hkl hge hk hfl
    clear k s
    intro s hs
    obtain ⟨e3, t14, k, e7, hk, hr⟩ := hs
    have hfl := flF_len p p.code.length
    rcases Nat.lt_or_ge k p.code.length with hlt | hge
    · have g0 : decide ((k : Int) < p.code.length) = true := by simp; omega
      have z0 := Int.natCast_nonneg k
      have z1 : (k : Int) < p.code.length := by omega
      have n2 : IntKind.i64.wrap ((k : Int) + 1) = (k + 1 : Nat) := by rw [w_i64 (by omega) (by omega)]; omega
      have q := flF_get p p.code.length hlt
      have hfs := firstL_succ p k
      have hfn := firstL_len p k
      obtain ⟨F, hF⟩ : ∃ F, flF p p.code.length = F := ⟨_, rfl⟩
      rw [hF] at t14 q hfl
      obtain ⟨O, hO⟩ : ∃ O, firstL p k = O := ⟨_, rfl⟩
      rw [hO] at hfs hfn hr
      have hil : flagAt p p.code.length k = isLead p k := rfl
      rw [hil] at q
      cases hb : isLead p k
      · rw [hb] at q hfs
        simp only [Bool.false_eq_true, if_false] at hfs
        simp only [go_sem, seval, eq_self, reduceCtorEq, e3, t14, e7, g0, z0, z1, n2, q, hfl, bv, Int.toNat_natCast, List.getElem?_map, List.length_map]
        repeat' ((first | (refine AG_of ?_ ?_ <;> intro h) | (refine AB_of ?_ ?_ <;> intro h) | (refine A_draw_of [] [] (by kernel_rfl) ?_ <;> have h := mark)) <;> simp only [go_sem, seval, eq_self, reduceCtorEq, e3, t14, e7, g0, z0, z1, n2, q, hfl, bv, Int.toNat_natCast, List.getElem?_map, List.length_map, h])
        exact ⟨⟨by simp [upd, e3], by simp [upd, t14, hF], k + 1, by simp [upd], by omega, by rw [hfs]; exact hr.same (by simp [upd]) (by simp [upd])⟩, by simp [upd, numOf, e7]; omega⟩
      · rw [hb] at q hfs
        simp only [if_true] at hfs
        rcases hr with ⟨hl0, hx⟩ | ⟨hl0, v, hx, hbb⟩
        ·
          simp only [go_sem, seval, eq_self, reduceCtorEq, e3, t14, e7, g0, z0, z1, n2, q, hfl, hx, bv, Int.toNat_natCast, List.getElem?_map, List.length_map]
          repeat' ((first | (refine AG_of ?_ ?_ <;> intro h) | (refine AB_of ?_ ?_ <;> intro h) | (refine A_draw_of [] [] (by kernel_rfl) ?_ <;> have h := mark)) <;> simp only [go_sem, seval, eq_self, reduceCtorEq, e3, t14, e7, g0, z0, z1, n2, q, hfl, hx, bv, Int.toNat_natCast, List.getElem?_map, List.length_map, h])
          exact ⟨⟨by simp [upd, e3], by simp [upd, t14, hF], k + 1, by simp [upd], by omega, by rw [hfs, hl0]; exact .inr ⟨by simp, (s.st 63).ver + 1, by simp [upd], by simp [upd, iv]⟩⟩, by simp [upd, numOf, e7]; omega⟩
        · have fl : (O.length + 1) * 8 ≤ 140737488355328 := by omega
          simp only [go_sem, seval, eq_self, reduceCtorEq, e3, t14, e7, g0, z0, z1, n2, q, hfl, hx, hbb, fl, bv, Int.toNat_natCast, List.getElem?_map, List.length_map]
          repeat' ((first | (refine AG_of ?_ ?_ <;> intro h) | (refine AB_of ?_ ?_ <;> intro h) | (refine A_draw_of [] [] (by kernel_rfl) ?_ <;> have h := mark)) <;> simp only [go_sem, seval, eq_self, reduceCtorEq, e3, t14, e7, g0, z0, z1, n2, q, hfl, hx, hbb, fl, bv, Int.toNat_natCast, List.getElem?_map, List.length_map, h])
          exact ⟨⟨by simp [upd, e3], by simp [upd, t14, hF], k + 1, by simp [upd], by omega, by rw [hfs]; exact .inr ⟨by simp, v + 1, by simp [upd], by simp [upd, iv]⟩⟩, by simp [upd, numOf, e7]; omega⟩
    · have hkl : k = p.code.length := by omega
      have g0 : decide ((k : Int) < p.code.length) = false := by simp; omega
      rw [hkl] at hr
      have hfe : firstL p p.code.length = leadL p := rfl
      rw [hfe] at hr
      have hmem : (0 : Int) ∈ leadL p := by
        unfold leadL
        exact List.mem_map.2 ⟨0, List.mem_filter.2 ⟨by simpa using m4, by simp [isLead, flagAt]⟩, rfl⟩
      obtain ⟨O, hO⟩ : ∃ O, leadL p = O := ⟨_, rfl⟩
      rw [hO] at hr hmem ⊢
      rcases hr with ⟨hl0, hx⟩ | ⟨hl0, v, hx, hbb⟩
      · subst hl0; cases hmem
      ·
        simp only [go_sem, seval, eq_self, reduceCtorEq, e3, e7, g0, hx, List.length_map]
        repeat' ((first | (refine AG_of ?_ ?_ <;> intro h) | (refine AB_of ?_ ?_ <;> intro h) | (refine A_draw_of [] [] (by kernel_rfl) ?_ <;> have h := mark)) <;> simp only [go_sem, seval, eq_self, reduceCtorEq, e3, e7, g0, hx, List.length_map, h])
        all_goals (first | refine fin_ret ?_ | refine fin_normal ?_)
        all_goals simp only [resOf, Tryz.results59, Tryz.ntmps59, go_sem, seval, eq_self, reduceCtorEq, hx, hbb]
theorem rlead_impl : Impl Tryz.prog 59 spLead := by
  have h := impl_lst rlead1_impl
  refine ⟨h.1, fun xs r hx => h.2 xs r ?_⟩
  revert hx
  simp only [spLead, spLead1]
  split
  · intro hx
    obtain ⟨p, hp, h2⟩ := Option.bind_eq_some_iff.1 hx
    rw [hp]
    simp only [Option.bind_some, Option.map_some, Option.some.injEq] at h2 ⊢
    rw [← h2]
    split <;> rfl
  · intro hx; cases hx
theorem spLead_v (p : Prg) : spLead.fn [p.v] = some (if rightP p = true then .lst true 1 ((leadL p).map iv) else .s (.slice none 0 0)) := by
  simp only [spLead, prgOf_v, Option.bind_some]
  split
  · rename_i h; rw [leadC_eq h]
  · rfl

end Go.Proofs.YtkfmecmmbnehjaaGreat
