/-
The reference's Owner by the plain reckoning: the same as owner.Of. No condition.
-/
import Derived.Test.YtkfmecmmbnehjaaGreatOa
namespace Go.Proofs.YtkfmecmmbnehjaaGreat
set_option linter.unusedSimpArgs false
set_option linter.unusedVariables false

def rwI2 (p : Prg) (s : S) : Prop := ofB p s ∧ ∃ n : Nat, s.env 5 = .s (.int .i64 n) ∧ n ≤ 17 ∧ s.st 3 = ⟨1, .box ((iterO p.code n).map iv)⟩
def rwI3 (p : Prg) (n : Nat) (s : S) : Prop := ofB p s ∧ s.env 5 = .s (.int .i64 n) ∧ ∃ k : Nat, s.env 6 = .s (.int .i64 k) ∧ k ≤ p.code.length ∧ s.st 3 = ⟨1, .box ((passO (p.code.take k) (iterO p.code n)).map iv)⟩
set_option maxHeartbeats 8000000 in
set_option maxRecDepth 8000 in
theorem rowner_impl : Impl Tryz.prog 38 spOf := by
  refine impl_walk2 mixed cRef2_ok eqT_ok Tryz.func38 rfl Tryz.ntmps38 (by kernel_rfl) ?_
  intro xs r h
  unfold spOf at h
  simp only at h
  (try split at h) <;> try (cases (show none = some r from h); done)
  rename_i x
  obtain ⟨p, hp, h3⟩ := Option.bind_eq_some_iff.1 h
  clear h
  split at h3
  case isFalse => cases h3
  rename_i hlen
  cases h3
  refine ⟨_, prg_args hp _, by simp, ?_⟩
  have hr := rightP_v p
  simp only [Prg.v] at hr
  unfold ofO
  cases c1 : rightP p
  · rw [c1] at hr
    simp only [go_sem, seval, eq_self, reduceCtorEq, Prg.v, cRef2_at, spRightP_mv, hr]
    repeat' ((first | (refine AG_of ?_ ?_ <;> intro h) | (refine AB_of ?_ ?_ <;> intro h) | (refine A_draw_of [] [] (by kernel_rfl) ?_ <;> have h := mark)) <;> simp only [go_sem, seval, eq_self, reduceCtorEq, Prg.v, cRef2_at, spRightP_mv, hr, h])
    all_goals (first | refine fin_ret ?_ | refine fin_normal ?_)
    all_goals simp only [resOf, Tryz.results38, Tryz.ntmps38, go_sem, seval, eq_self, reduceCtorEq]
    all_goals rfl
  rw [c1] at hr
  simp only [if_true]
  obtain ⟨hall, hcl⟩ := rightP_all c1
  simp only [go_sem, seval, eq_self, reduceCtorEq, Prg.v, cRef2_at, spRightP_mv, hr]
  repeat' ((first | (refine AG_of ?_ ?_ <;> intro h) | (refine AB_of ?_ ?_ <;> intro h) | (refine A_draw_of [] [] (by kernel_rfl) ?_ <;> have h := mark)) <;> simp only [go_sem, seval, eq_self, reduceCtorEq, Prg.v, cRef2_at, spRightP_mv, hr, h])
  refine A_loop (ofI1 p) (fun s => 17 - (numOf (s.env 4)).toNat) ?_ ?_
  · exact ⟨⟨by simp [upd], by simp [upd, V.unfrL, V.unfr], by simp [upd], by simp [upd]; rfl, by simp [upd]⟩, 0, by simp [upd], by omega, by simp [upd]; rfl⟩
  intro s hs
  obtain ⟨⟨e1, t1, e2, t2, e3⟩, k, e4, hk, t3⟩ := hs
  rcases Nat.lt_or_ge k 15 with hlt | hge
  · have g0 : decide (((k + 1 : Nat) : Int) < 16) = true := by simp; omega
    have z0 := Int.natCast_nonneg (k + 1)
    have z1 : ((k + 1 : Nat) : Int) < 16 := by omega
    have n2 : IntKind.i64.wrap (((k + 1 : Nat) : Int) + 1) = (k + 1 + 1 : Nat) := by rw [w_i64 (by omega) (by omega)]; omega
    have hs1 := spl_iv (o := initO k) (k := k + 1) (by rw [init_len]; omega) 2
    have hl := init_len k
    have hle : k + 1 + 1 ≤ 16 := by omega
    simp only [go_sem, seval, eq_self, reduceCtorEq, e1, t1, e2, t2, e3, e4, t3, g0, z0, z1, n2, hs1, hl, hle, List.length_map, Int.toNat_natCast, Nat.mul_one, Nat.zero_add]
    repeat' ((first | (refine AG_of ?_ ?_ <;> intro h) | (refine AB_of ?_ ?_ <;> intro h) | (refine A_draw_of [] [] (by kernel_rfl) ?_ <;> have h := mark)) <;> simp only [go_sem, seval, eq_self, reduceCtorEq, e1, t1, e2, t2, e3, e4, t3, g0, z0, z1, n2, hs1, hl, hle, List.length_map, Int.toNat_natCast, Nat.mul_one, Nat.zero_add, h])
    exact ⟨⟨⟨by simp [upd, e1], by simp [upd, t1], by simp [upd, e2], by simp [upd, t2], by simp [upd, e3]⟩, k + 1, by simp [upd], by omega, by simp [upd, initO]⟩, by simp [upd, numOf, e4]; omega⟩
  have hk15 : k = 15 := by omega
  subst hk15
  have hst : initO 15 = startO := by decide
  rw [hst] at t3
  simp only [go_sem, seval, eq_self, reduceCtorEq, e1, t1, e2, t2, e3, e4, t3]
  repeat' ((first | (refine AG_of ?_ ?_ <;> intro h) | (refine AB_of ?_ ?_ <;> intro h) | (refine A_draw_of [] [] (by kernel_rfl) ?_ <;> have h := mark)) <;> simp only [go_sem, seval, eq_self, reduceCtorEq, e1, t1, e2, t2, e3, e4, t3, h])
  refine A_loop (rwI2 p) (fun s => 17 - (numOf (s.env 5)).toNat) ?_ ?_
  · exact ⟨⟨by simp [upd, e1], by simp [upd, t1], by simp [upd, e2], by simp [upd, t2], by simp [upd, e3]⟩, 0, by simp [upd], by omega, by simp [upd, t3]; rfl⟩
  clear e1 t1 e2 t2 e3 e4 t3
  intro s hs
  obtain ⟨⟨e1, t1, e2, t2, e3⟩, n, e5, hn, t3⟩ := hs
  have hil := iter_len p.code n
  rcases Nat.lt_or_ge n 17 with hlt | hge
  case inr =>
    have hn17 : n = 17 := by omega
    have g0 : decide ((n : Int) < 17) = false := by simp; omega
    have hto := take_iv hil
    have hzd : List.drop 16 (List.map iv zeroO) = [] := rfl
    have hz16 : zeroO.length = 16 := rfl
    rw [← hn17]
    simp only [go_sem, seval, eq_self, reduceCtorEq, e1, t1, e2, t2, e3, e5, t3, g0, hto, hil, hzd, hz16, List.length_map]
    repeat' ((first | (refine AG_of ?_ ?_ <;> intro h) | (refine AB_of ?_ ?_ <;> intro h) | (refine A_draw_of [] [] (by kernel_rfl) ?_ <;> have h := mark)) <;> simp only [go_sem, seval, eq_self, reduceCtorEq, e1, t1, e2, t2, e3, e5, t3, g0, hto, hil, hzd, hz16, List.length_map, h])
    all_goals (first | refine fin_ret ?_ | refine fin_normal ?_)
    all_goals simp only [resOf, Tryz.results38, Tryz.ntmps38, go_sem, seval, eq_self, reduceCtorEq, e2, hto, hil, List.length_map]
    all_goals rfl
  have g0 : decide ((n : Int) < 17) = true := by simp; omega
  simp only [go_sem, seval, eq_self, reduceCtorEq, e1, t1, e2, t2, e3, e5, t3, g0]
  repeat' ((first | (refine AG_of ?_ ?_ <;> intro h) | (refine AB_of ?_ ?_ <;> intro h) | (refine A_draw_of [] [] (by kernel_rfl) ?_ <;> have h := mark)) <;> simp only [go_sem, seval, eq_self, reduceCtorEq, e1, t1, e2, t2, e3, e5, t3, g0, h])
  refine A_loop (rwI3 p n) (fun s => p.code.length - (numOf (s.env 6)).toNat) ?_ ?_
  · exact ⟨⟨by simp [upd, e1], by simp [upd, t1], by simp [upd, e2], by simp [upd, t2], by simp [upd, e3]⟩, by simp [upd, e5], 0, by simp [upd], by omega, by simp [upd, t3, passO]⟩
  have he5 := e5
  clear e1 t1 e2 t2 e3 t3 g0 e5
  intro s' hs'
  obtain ⟨⟨e1, t1, e2, t2, e3⟩, e5, k, e6, hk, t3⟩ := hs'
  obtain ⟨o, hoe⟩ : ∃ o, passO (p.code.take k) (iterO p.code n) = o := ⟨_, rfl⟩
  have hok : OkO o := by
    rw [← hoe]
    refine (pass_ok ?_ (iter_ok hall n)).1
    rw [List.all_eq_true] at hall ⊢
    exact fun i hi => hall i (List.mem_of_mem_take hi)
  rw [hoe] at t3
  have hlen := hok.len
  rcases Nat.lt_or_ge k p.code.length with hlt2 | hge
  case inr =>
    have hkl : k = p.code.length := by omega
    have g0 : decide ((k : Int) < p.code.length) = false := by simp; omega
    have n2 : IntKind.i64.wrap ((n : Int) + 1) = (n + 1 : Nat) := by rw [w_i64 (by omega) (by omega)]; omega
    have hit : o = iterO p.code (n + 1) := by rw [← hoe, hkl, List.take_length]; rfl
    rw [hit] at t3
    simp only [go_sem, seval, eq_self, reduceCtorEq, e1, t1, e2, t2, e3, e5, e6, t3, g0, n2, List.length_map]
    repeat' ((first | (refine AG_of ?_ ?_ <;> intro h) | (refine AB_of ?_ ?_ <;> intro h) | (refine A_draw_of [] [] (by kernel_rfl) ?_ <;> have h := mark)) <;> simp only [go_sem, seval, eq_self, reduceCtorEq, e1, t1, e2, t2, e3, e5, e6, t3, g0, n2, List.length_map, h])
    exact ⟨⟨⟨by simp [upd, e1], by simp [upd, t1], by simp [upd, e2], by simp [upd, t2], by simp [upd, e3]⟩, n + 1, by simp [upd], by omega, by simp [upd, t3]⟩, by simp [upd, numOf, he5]; omega⟩
  obtain ⟨⟨op, d, a, b, imm⟩, q⟩ : ∃ i, p.code[k]? = some i := ⟨p.code[k], List.getElem?_eq_getElem hlt2⟩
  have hri := List.all_eq_true.1 hall _ (List.mem_of_getElem? q)
  have g0 : decide ((k : Int) < p.code.length) = true := by simp; omega
  have z0 := Int.natCast_nonneg k
  have z1 : (k : Int) < p.code.length := by omega
  have n2 : IntKind.i64.wrap ((k : Int) + 1) = (k + 1 : Nat) := by rw [w_i64 (by omega) (by omega)]; omega
  have hf := right_fit hri
  obtain ⟨kd, rfl⟩ : ∃ k : Nat, d = k := ⟨d.toNat, by have := hf.d0; simp only at this; omega⟩
  obtain ⟨ka, rfl⟩ : ∃ k : Nat, a = k := ⟨a.toNat, by have := hf.a0; simp only at this; omega⟩
  have ha1 : (ka : Int) < 16 := by have := hf.a1; simp only at this; omega
  have hd1 : (kd : Int) < 16 := by have := hf.d1; simp only at this; omega
  have hz1 := Int.natCast_nonneg ka
  have hz2 := Int.natCast_nonneg kd
  have hka : ka + 1 ≤ 16 := by omega
  have hdd := drop_iv (o := o) (k := kd) (by omega)
  have hsa := spl_iv (o := o) (k := ka) (by omega) 1
  obtain ⟨l, hl⟩ : ∃ l, readsL ⟨op, kd, ka, b, imm⟩ = l := ⟨_, rfl⟩
  have hR := readsL_v op kd ka b imm hl
  have hF := spForm_fn op
  have hl2 := reads_len ⟨op, kd, ka, b, imm⟩
  have hbd : ∀ r ∈ l, 1 ≤ r ∧ r < 16 := fun r hr => reads_bd (i := ⟨op, kd, ka, b, imm⟩) (r := r) (by rw [hl]; exact hr)
  rw [hl] at hl2
  have hsn : passO (p.code.take (k + 1)) (iterO p.code n) = giveO ⟨op, kd, ka, b, imm⟩ o := by
    rw [List.take_add_one, q, ← hoe]
    simp [passO, List.foldl_append]
  have hgv : giveO ⟨op, kd, ka, b, imm⟩ o = if (form op == 4 || form op == 5) = true then (if (ka : Int) == 0 then o else o.set ka 1) else if (decide (1 ≤ form op) && decide (form op ≤ 3) && oAt o kd == 1) = true then l.foldl (fun o r => o.set r.toNat 1) o else o := by
    rw [← hl]; rfl
  obtain ⟨f, hfe⟩ : ∃ f, form op = f := ⟨_, rfl⟩
  rw [hfe] at hF hgv
  clear hfe hl
  have hkd : decide (0 < (kd : Int)) = false → (oAt o kd == 1) = false := fun h => by
    have : kd = 0 := by simp at h; omega
    subst this
    have : oAt o ((0 : Nat) : Int) = 0 := hok.zero
    rw [this]; rfl
  have hcase : f = 4 ∨ f = 5 ∨ (1 ≤ f ∧ f ≤ 3) ∨ (f ≠ 4 ∧ f ≠ 5 ∧ ¬ (1 ≤ f ∧ f ≤ 3)) := by omega
  rcases hcase with hf4 | hf5 | hfr | hfe
  ·
    subst hf4
    simp only [beq_self_eq_true, Bool.true_or, Bool.or_true, if_true] at hgv
    cases ha0 : decide (0 < (ka : Int))
    ·
      have e0 : ((ka : Int) == 0) = true := by simp at ha0 ⊢; omega
      simp only [e0, if_true] at hgv
      simp only [go_sem, seval, eq_self, reduceCtorEq, e1, t1, e2, t2, e3, e5, e6, t3, q, g0, z0, z1, n2, ha1, hd1, hz1, hz2, hka, hdd, hsa, hlen, cRef2_at, spForm_mv, hF, spReadsL_mv, hR, Int.toNat_natCast, List.getElem?_map, List.length_map, Ins.v, Nat.mul_one, Nat.zero_add, ha0]
      repeat' ((first | (refine AG_of ?_ ?_ <;> intro h) | (refine AB_of ?_ ?_ <;> intro h) | (refine A_draw_of [] [] (by kernel_rfl) ?_ <;> have h := mark)) <;> simp only [go_sem, seval, eq_self, reduceCtorEq, e1, t1, e2, t2, e3, e5, e6, t3, q, g0, z0, z1, n2, ha1, hd1, hz1, hz2, hka, hdd, hsa, hlen, cRef2_at, spForm_mv, hF, spReadsL_mv, hR, Int.toNat_natCast, List.getElem?_map, List.length_map, Ins.v, Nat.mul_one, Nat.zero_add, ha0, h])
      exact ⟨⟨⟨by simp [upd, e1], by simp [upd, t1], by simp [upd, e2], by simp [upd, t2], by simp [upd, e3]⟩, by simp [upd, e5], k + 1, by simp [upd], by omega, by simp [upd, t3, hsn, hgv]⟩, by simp [upd, numOf, e6]; omega⟩
    ·
      have e0 : ((ka : Int) == 0) = false := by simp at ha0 ⊢; omega
      simp only [e0, Bool.false_eq_true, if_false] at hgv
      simp only [go_sem, seval, eq_self, reduceCtorEq, e1, t1, e2, t2, e3, e5, e6, t3, q, g0, z0, z1, n2, ha1, hd1, hz1, hz2, hka, hdd, hsa, hlen, cRef2_at, spForm_mv, hF, spReadsL_mv, hR, Int.toNat_natCast, List.getElem?_map, List.length_map, Ins.v, Nat.mul_one, Nat.zero_add, ha0]
      repeat' ((first | (refine AG_of ?_ ?_ <;> intro h) | (refine AB_of ?_ ?_ <;> intro h) | (refine A_draw_of [] [] (by kernel_rfl) ?_ <;> have h := mark)) <;> simp only [go_sem, seval, eq_self, reduceCtorEq, e1, t1, e2, t2, e3, e5, e6, t3, q, g0, z0, z1, n2, ha1, hd1, hz1, hz2, hka, hdd, hsa, hlen, cRef2_at, spForm_mv, hF, spReadsL_mv, hR, Int.toNat_natCast, List.getElem?_map, List.length_map, Ins.v, Nat.mul_one, Nat.zero_add, ha0, h])
      exact ⟨⟨⟨by simp [upd, e1], by simp [upd, t1], by simp [upd, e2], by simp [upd, t2], by simp [upd, e3]⟩, by simp [upd, e5], k + 1, by simp [upd], by omega, by simp [upd, t3, hsn, hgv]⟩, by simp [upd, numOf, e6]; omega⟩
  ·
    subst hf5
    simp only [beq_self_eq_true, Bool.true_or, Bool.or_true, if_true] at hgv
    cases ha0 : decide (0 < (ka : Int))
    ·
      have e0 : ((ka : Int) == 0) = true := by simp at ha0 ⊢; omega
      simp only [e0, if_true] at hgv
      simp only [go_sem, seval, eq_self, reduceCtorEq, e1, t1, e2, t2, e3, e5, e6, t3, q, g0, z0, z1, n2, ha1, hd1, hz1, hz2, hka, hdd, hsa, hlen, cRef2_at, spForm_mv, hF, spReadsL_mv, hR, Int.toNat_natCast, List.getElem?_map, List.length_map, Ins.v, Nat.mul_one, Nat.zero_add, ha0]
      repeat' ((first | (refine AG_of ?_ ?_ <;> intro h) | (refine AB_of ?_ ?_ <;> intro h) | (refine A_draw_of [] [] (by kernel_rfl) ?_ <;> have h := mark)) <;> simp only [go_sem, seval, eq_self, reduceCtorEq, e1, t1, e2, t2, e3, e5, e6, t3, q, g0, z0, z1, n2, ha1, hd1, hz1, hz2, hka, hdd, hsa, hlen, cRef2_at, spForm_mv, hF, spReadsL_mv, hR, Int.toNat_natCast, List.getElem?_map, List.length_map, Ins.v, Nat.mul_one, Nat.zero_add, ha0, h])
      exact ⟨⟨⟨by simp [upd, e1], by simp [upd, t1], by simp [upd, e2], by simp [upd, t2], by simp [upd, e3]⟩, by simp [upd, e5], k + 1, by simp [upd], by omega, by simp [upd, t3, hsn, hgv]⟩, by simp [upd, numOf, e6]; omega⟩
    ·
      have e0 : ((ka : Int) == 0) = false := by simp at ha0 ⊢; omega
      simp only [e0, Bool.false_eq_true, if_false] at hgv
      simp only [go_sem, seval, eq_self, reduceCtorEq, e1, t1, e2, t2, e3, e5, e6, t3, q, g0, z0, z1, n2, ha1, hd1, hz1, hz2, hka, hdd, hsa, hlen, cRef2_at, spForm_mv, hF, spReadsL_mv, hR, Int.toNat_natCast, List.getElem?_map, List.length_map, Ins.v, Nat.mul_one, Nat.zero_add, ha0]
      repeat' ((first | (refine AG_of ?_ ?_ <;> intro h) | (refine AB_of ?_ ?_ <;> intro h) | (refine A_draw_of [] [] (by kernel_rfl) ?_ <;> have h := mark)) <;> simp only [go_sem, seval, eq_self, reduceCtorEq, e1, t1, e2, t2, e3, e5, e6, t3, q, g0, z0, z1, n2, ha1, hd1, hz1, hz2, hka, hdd, hsa, hlen, cRef2_at, spForm_mv, hF, spReadsL_mv, hR, Int.toNat_natCast, List.getElem?_map, List.length_map, Ins.v, Nat.mul_one, Nat.zero_add, ha0, h])
      exact ⟨⟨⟨by simp [upd, e1], by simp [upd, t1], by simp [upd, e2], by simp [upd, t2], by simp [upd, e3]⟩, by simp [upd, e5], k + 1, by simp [upd], by omega, by simp [upd, t3, hsn, hgv]⟩, by simp [upd, numOf, e6]; omega⟩
  ·
    have f4 : (f == 4) = false := by simp; omega
    have f5 : (f == 5) = false := by simp; omega
    have f1 : decide (1 ≤ f) = true := by simp; omega
    have f3 : decide (f ≤ 3) = true := by simp; omega
    simp only [f4, f5, f1, f3, Bool.or_false, Bool.true_and, Bool.false_eq_true, if_false] at hgv
    cases hk0 : decide (0 < (kd : Int))
    ·
      rw [hkd hk0] at hgv
      simp only [Bool.false_eq_true, if_false] at hgv
      simp only [go_sem, seval, eq_self, reduceCtorEq, e1, t1, e2, t2, e3, e5, e6, t3, q, g0, z0, z1, n2, ha1, hd1, hz1, hz2, hka, hdd, hsa, hlen, cRef2_at, spForm_mv, hF, spReadsL_mv, hR, Int.toNat_natCast, List.getElem?_map, List.length_map, Ins.v, Nat.mul_one, Nat.zero_add, f4, f5, f1, f3, hk0]
      repeat' ((first | (refine AG_of ?_ ?_ <;> intro h) | (refine AB_of ?_ ?_ <;> intro h) | (refine A_draw_of [] [] (by kernel_rfl) ?_ <;> have h := mark)) <;> simp only [go_sem, seval, eq_self, reduceCtorEq, e1, t1, e2, t2, e3, e5, e6, t3, q, g0, z0, z1, n2, ha1, hd1, hz1, hz2, hka, hdd, hsa, hlen, cRef2_at, spForm_mv, hF, spReadsL_mv, hR, Int.toNat_natCast, List.getElem?_map, List.length_map, Ins.v, Nat.mul_one, Nat.zero_add, f4, f5, f1, f3, hk0, h])
      exact ⟨⟨⟨by simp [upd, e1], by simp [upd, t1], by simp [upd, e2], by simp [upd, t2], by simp [upd, e3]⟩, by simp [upd, e5], k + 1, by simp [upd], by omega, by simp [upd, t3, hsn, hgv]⟩, by simp [upd, numOf, e6]; omega⟩
    ·
      cases hv : (oAt o kd == 1)
      ·
        rw [hv] at hgv
        simp only [Bool.false_eq_true, if_false] at hgv
        simp only [go_sem, seval, eq_self, reduceCtorEq, e1, t1, e2, t2, e3, e5, e6, t3, q, g0, z0, z1, n2, ha1, hd1, hz1, hz2, hka, hdd, hsa, hlen, cRef2_at, spForm_mv, hF, spReadsL_mv, hR, Int.toNat_natCast, List.getElem?_map, List.length_map, Ins.v, Nat.mul_one, Nat.zero_add, f4, f5, f1, f3, hk0, hv]
        repeat' ((first | (refine AG_of ?_ ?_ <;> intro h) | (refine AB_of ?_ ?_ <;> intro h) | (refine A_draw_of [] [] (by kernel_rfl) ?_ <;> have h := mark)) <;> simp only [go_sem, seval, eq_self, reduceCtorEq, e1, t1, e2, t2, e3, e5, e6, t3, q, g0, z0, z1, n2, ha1, hd1, hz1, hz2, hka, hdd, hsa, hlen, cRef2_at, spForm_mv, hF, spReadsL_mv, hR, Int.toNat_natCast, List.getElem?_map, List.length_map, Ins.v, Nat.mul_one, Nat.zero_add, f4, f5, f1, f3, hk0, hv, h])
        exact ⟨⟨⟨by simp [upd, e1], by simp [upd, t1], by simp [upd, e2], by simp [upd, t2], by simp [upd, e3]⟩, by simp [upd, e5], k + 1, by simp [upd], by omega, by simp [upd, t3, hsn, hgv]⟩, by simp [upd, numOf, e6]; omega⟩
      ·
        rw [hv] at hgv
        simp only [if_true] at hgv
        match l, hl2, hbd, hR, hgv with
        | [], _, _, hR, hgv =>
          simp only [List.isEmpty_nil, if_true] at hR
          simp only [go_sem, seval, eq_self, reduceCtorEq, e1, t1, e2, t2, e3, e5, e6, t3, q, g0, z0, z1, n2, ha1, hd1, hz1, hz2, hka, hdd, hsa, hlen, cRef2_at, spForm_mv, hF, spReadsL_mv, hR, Int.toNat_natCast, List.getElem?_map, List.length_map, Ins.v, Nat.mul_one, Nat.zero_add, f4, f5, f1, f3, hk0, hv]
          repeat' ((first | (refine AG_of ?_ ?_ <;> intro h) | (refine AB_of ?_ ?_ <;> intro h) | (refine A_draw_of [] [] (by kernel_rfl) ?_ <;> have h := mark)) <;> simp only [go_sem, seval, eq_self, reduceCtorEq, e1, t1, e2, t2, e3, e5, e6, t3, q, g0, z0, z1, n2, ha1, hd1, hz1, hz2, hka, hdd, hsa, hlen, cRef2_at, spForm_mv, hF, spReadsL_mv, hR, Int.toNat_natCast, List.getElem?_map, List.length_map, Ins.v, Nat.mul_one, Nat.zero_add, f4, f5, f1, f3, hk0, hv, h])
          refine A_round ?_
          simp only [go_sem, seval, eq_self, reduceCtorEq, e1, t1, e2, t2, e3, e5, e6, t3, q, g0, z0, z1, n2, ha1, hd1, hz1, hz2, hka, hdd, hsa, hlen, cRef2_at, spForm_mv, hF, spReadsL_mv, hR, Int.toNat_natCast, List.getElem?_map, List.length_map, Ins.v, Nat.mul_one, Nat.zero_add, f4, f5, f1, f3, hk0, hv]
          repeat' ((first | (refine AG_of ?_ ?_ <;> intro h) | (refine AB_of ?_ ?_ <;> intro h) | (refine A_draw_of [] [] (by kernel_rfl) ?_ <;> have h := mark)) <;> simp only [go_sem, seval, eq_self, reduceCtorEq, e1, t1, e2, t2, e3, e5, e6, t3, q, g0, z0, z1, n2, ha1, hd1, hz1, hz2, hka, hdd, hsa, hlen, cRef2_at, spForm_mv, hF, spReadsL_mv, hR, Int.toNat_natCast, List.getElem?_map, List.length_map, Ins.v, Nat.mul_one, Nat.zero_add, f4, f5, f1, f3, hk0, hv, h])
          exact ⟨⟨⟨by simp [upd, e1], by simp [upd, t1], by simp [upd, e2], by simp [upd, t2], by simp [upd, e3]⟩, by simp [upd, e5], k + 1, by simp [upd], by omega, by simp [upd, t3, hsn, hgv]⟩, by simp [upd, numOf, e6]; omega⟩
        | [r], _, hbd, hR, hgv =>
          obtain ⟨h1, h2⟩ := hbd r (by simp)
          obtain ⟨j, rfl⟩ : ∃ k : Nat, r = k := ⟨r.toNat, by omega⟩
          have hz3 := Int.natCast_nonneg j
          have hk3 : j + 1 ≤ 16 := by omega
          have hs := spl_iv (o := o) (k := j) (by omega) 1
          simp only [List.isEmpty_cons, Bool.false_eq_true, if_false, List.map_cons, List.map_nil, iv] at hR
          simp only [List.foldl_cons, List.foldl_nil, Int.toNat_natCast] at hgv
          simp only [go_sem, seval, eq_self, reduceCtorEq, e1, t1, e2, t2, e3, e5, e6, t3, q, g0, z0, z1, n2, ha1, hd1, hz1, hz2, hka, hdd, hsa, hlen, cRef2_at, spForm_mv, hF, spReadsL_mv, hR, Int.toNat_natCast, List.getElem?_map, List.length_map, Ins.v, Nat.mul_one, Nat.zero_add, f4, f5, f1, f3, hk0, hv]
          repeat' ((first | (refine AG_of ?_ ?_ <;> intro h) | (refine AB_of ?_ ?_ <;> intro h) | (refine A_draw_of [] [] (by kernel_rfl) ?_ <;> have h := mark)) <;> simp only [go_sem, seval, eq_self, reduceCtorEq, e1, t1, e2, t2, e3, e5, e6, t3, q, g0, z0, z1, n2, ha1, hd1, hz1, hz2, hka, hdd, hsa, hlen, cRef2_at, spForm_mv, hF, spReadsL_mv, hR, Int.toNat_natCast, List.getElem?_map, List.length_map, Ins.v, Nat.mul_one, Nat.zero_add, f4, f5, f1, f3, hk0, hv, h])
          refine A_round ?_
          simp only [go_sem, seval, eq_self, reduceCtorEq, hz3, h2, hk3, hs, e1, t1, e2, t2, e3, e5, e6, t3, q, g0, z0, z1, n2, ha1, hd1, hz1, hz2, hka, hdd, hsa, hlen, cRef2_at, spForm_mv, hF, spReadsL_mv, hR, Int.toNat_natCast, List.getElem?_map, List.length_map, Ins.v, Nat.mul_one, Nat.zero_add]
          repeat' ((first | (refine AG_of ?_ ?_ <;> intro h) | (refine AB_of ?_ ?_ <;> intro h) | (refine A_draw_of [] [] (by kernel_rfl) ?_ <;> have h := mark)) <;> simp only [go_sem, seval, eq_self, reduceCtorEq, hz3, h2, hk3, hs, e1, t1, e2, t2, e3, e5, e6, t3, q, g0, z0, z1, n2, ha1, hd1, hz1, hz2, hka, hdd, hsa, hlen, cRef2_at, spForm_mv, hF, spReadsL_mv, hR, Int.toNat_natCast, List.getElem?_map, List.length_map, Ins.v, Nat.mul_one, Nat.zero_add, h])
          refine A_round ?_
          simp only [go_sem, seval, eq_self, reduceCtorEq, hz3, h2, hk3, hs, e1, t1, e2, t2, e3, e5, e6, t3, q, g0, z0, z1, n2, ha1, hd1, hz1, hz2, hka, hdd, hsa, hlen, cRef2_at, spForm_mv, hF, spReadsL_mv, hR, Int.toNat_natCast, List.getElem?_map, List.length_map, Ins.v, Nat.mul_one, Nat.zero_add]
          repeat' ((first | (refine AG_of ?_ ?_ <;> intro h) | (refine AB_of ?_ ?_ <;> intro h) | (refine A_draw_of [] [] (by kernel_rfl) ?_ <;> have h := mark)) <;> simp only [go_sem, seval, eq_self, reduceCtorEq, hz3, h2, hk3, hs, e1, t1, e2, t2, e3, e5, e6, t3, q, g0, z0, z1, n2, ha1, hd1, hz1, hz2, hka, hdd, hsa, hlen, cRef2_at, spForm_mv, hF, spReadsL_mv, hR, Int.toNat_natCast, List.getElem?_map, List.length_map, Ins.v, Nat.mul_one, Nat.zero_add, h])
          exact ⟨⟨⟨by simp [upd, e1], by simp [upd, t1], by simp [upd, e2], by simp [upd, t2], by simp [upd, e3]⟩, by simp [upd, e5], k + 1, by simp [upd], by omega, by simp [upd, t3, hsn, hgv]⟩, by simp [upd, numOf, e6]; omega⟩
        | [r, r'], _, hbd, hR, hgv =>
          obtain ⟨h1, h2⟩ := hbd r (by simp)
          obtain ⟨h3, h4⟩ := hbd r' (by simp)
          obtain ⟨j, rfl⟩ : ∃ k : Nat, r = k := ⟨r.toNat, by omega⟩
          obtain ⟨j', rfl⟩ : ∃ k : Nat, r' = k := ⟨r'.toNat, by omega⟩
          have hz3 := Int.natCast_nonneg j
          have hk3 : j + 1 ≤ 16 := by omega
          have hz4 := Int.natCast_nonneg j'
          have hk4 : j' + 1 ≤ 16 := by omega
          have hs := spl_iv (o := o) (k := j) (by omega) 1
          have hs' := spl_iv (o := o.set j 1) (k := j') (by simp; omega) 1
          simp only [List.isEmpty_cons, Bool.false_eq_true, if_false, List.map_cons, List.map_nil, iv] at hR
          simp only [List.foldl_cons, List.foldl_nil, Int.toNat_natCast] at hgv
          simp only [go_sem, seval, eq_self, reduceCtorEq, e1, t1, e2, t2, e3, e5, e6, t3, q, g0, z0, z1, n2, ha1, hd1, hz1, hz2, hka, hdd, hsa, hlen, cRef2_at, spForm_mv, hF, spReadsL_mv, hR, Int.toNat_natCast, List.getElem?_map, List.length_map, Ins.v, Nat.mul_one, Nat.zero_add, f4, f5, f1, f3, hk0, hv]
          repeat' ((first | (refine AG_of ?_ ?_ <;> intro h) | (refine AB_of ?_ ?_ <;> intro h) | (refine A_draw_of [] [] (by kernel_rfl) ?_ <;> have h := mark)) <;> simp only [go_sem, seval, eq_self, reduceCtorEq, e1, t1, e2, t2, e3, e5, e6, t3, q, g0, z0, z1, n2, ha1, hd1, hz1, hz2, hka, hdd, hsa, hlen, cRef2_at, spForm_mv, hF, spReadsL_mv, hR, Int.toNat_natCast, List.getElem?_map, List.length_map, Ins.v, Nat.mul_one, Nat.zero_add, f4, f5, f1, f3, hk0, hv, h])
          refine A_round ?_
          simp only [go_sem, seval, eq_self, reduceCtorEq, hz3, h2, hk3, hs, e1, t1, e2, t2, e3, e5, e6, t3, q, g0, z0, z1, n2, ha1, hd1, hz1, hz2, hka, hdd, hsa, hlen, cRef2_at, spForm_mv, hF, spReadsL_mv, hR, Int.toNat_natCast, List.getElem?_map, List.length_map, Ins.v, Nat.mul_one, Nat.zero_add]
          repeat' ((first | (refine AG_of ?_ ?_ <;> intro h) | (refine AB_of ?_ ?_ <;> intro h) | (refine A_draw_of [] [] (by kernel_rfl) ?_ <;> have h := mark)) <;> simp only [go_sem, seval, eq_self, reduceCtorEq, hz3, h2, hk3, hs, e1, t1, e2, t2, e3, e5, e6, t3, q, g0, z0, z1, n2, ha1, hd1, hz1, hz2, hka, hdd, hsa, hlen, cRef2_at, spForm_mv, hF, spReadsL_mv, hR, Int.toNat_natCast, List.getElem?_map, List.length_map, Ins.v, Nat.mul_one, Nat.zero_add, h])
          refine A_round ?_
          simp only [go_sem, seval, eq_self, reduceCtorEq, hz4, h4, hk4, hs', List.length_set, e1, t1, e2, t2, e3, e5, e6, t3, q, g0, z0, z1, n2, ha1, hd1, hz1, hz2, hka, hdd, hsa, hlen, cRef2_at, spForm_mv, hF, spReadsL_mv, hR, Int.toNat_natCast, List.getElem?_map, List.length_map, Ins.v, Nat.mul_one, Nat.zero_add]
          repeat' ((first | (refine AG_of ?_ ?_ <;> intro h) | (refine AB_of ?_ ?_ <;> intro h) | (refine A_draw_of [] [] (by kernel_rfl) ?_ <;> have h := mark)) <;> simp only [go_sem, seval, eq_self, reduceCtorEq, hz4, h4, hk4, hs', List.length_set, e1, t1, e2, t2, e3, e5, e6, t3, q, g0, z0, z1, n2, ha1, hd1, hz1, hz2, hka, hdd, hsa, hlen, cRef2_at, spForm_mv, hF, spReadsL_mv, hR, Int.toNat_natCast, List.getElem?_map, List.length_map, Ins.v, Nat.mul_one, Nat.zero_add, h])
          refine A_round ?_
          simp only [go_sem, seval, eq_self, reduceCtorEq, e1, t1, e2, t2, e3, e5, e6, t3, q, g0, z0, z1, n2, ha1, hd1, hz1, hz2, hka, hdd, hsa, hlen, cRef2_at, spForm_mv, hF, spReadsL_mv, hR, Int.toNat_natCast, List.getElem?_map, List.length_map, Ins.v, Nat.mul_one, Nat.zero_add]
          repeat' ((first | (refine AG_of ?_ ?_ <;> intro h) | (refine AB_of ?_ ?_ <;> intro h) | (refine A_draw_of [] [] (by kernel_rfl) ?_ <;> have h := mark)) <;> simp only [go_sem, seval, eq_self, reduceCtorEq, e1, t1, e2, t2, e3, e5, e6, t3, q, g0, z0, z1, n2, ha1, hd1, hz1, hz2, hka, hdd, hsa, hlen, cRef2_at, spForm_mv, hF, spReadsL_mv, hR, Int.toNat_natCast, List.getElem?_map, List.length_map, Ins.v, Nat.mul_one, Nat.zero_add, h])
          exact ⟨⟨⟨by simp [upd, e1], by simp [upd, t1], by simp [upd, e2], by simp [upd, t2], by simp [upd, e3]⟩, by simp [upd, e5], k + 1, by simp [upd], by omega, by simp [upd, t3, hsn, hgv]⟩, by simp [upd, numOf, e6]; omega⟩
  ·
    have f4 : (f == 4) = false := by simp; omega
    have f5 : (f == 5) = false := by simp; omega
    have f13 : (decide (1 ≤ f) && decide (f ≤ 3)) = false := by simp; omega
    simp only [f4, f5, f13, Bool.or_false, Bool.false_and, Bool.false_eq_true, if_false] at hgv
    cases f1 : decide (1 ≤ f)
    ·
      simp only [go_sem, seval, eq_self, reduceCtorEq, e1, t1, e2, t2, e3, e5, e6, t3, q, g0, z0, z1, n2, ha1, hd1, hz1, hz2, hka, hdd, hsa, hlen, cRef2_at, spForm_mv, hF, spReadsL_mv, hR, Int.toNat_natCast, List.getElem?_map, List.length_map, Ins.v, Nat.mul_one, Nat.zero_add, f4, f5, f1]
      repeat' ((first | (refine AG_of ?_ ?_ <;> intro h) | (refine AB_of ?_ ?_ <;> intro h) | (refine A_draw_of [] [] (by kernel_rfl) ?_ <;> have h := mark)) <;> simp only [go_sem, seval, eq_self, reduceCtorEq, e1, t1, e2, t2, e3, e5, e6, t3, q, g0, z0, z1, n2, ha1, hd1, hz1, hz2, hka, hdd, hsa, hlen, cRef2_at, spForm_mv, hF, spReadsL_mv, hR, Int.toNat_natCast, List.getElem?_map, List.length_map, Ins.v, Nat.mul_one, Nat.zero_add, f4, f5, f1, h])
      exact ⟨⟨⟨by simp [upd, e1], by simp [upd, t1], by simp [upd, e2], by simp [upd, t2], by simp [upd, e3]⟩, by simp [upd, e5], k + 1, by simp [upd], by omega, by simp [upd, t3, hsn, hgv]⟩, by simp [upd, numOf, e6]; omega⟩
    ·
      have f3 : decide (f ≤ 3) = false := by simp at f1 ⊢; omega
      simp only [go_sem, seval, eq_self, reduceCtorEq, e1, t1, e2, t2, e3, e5, e6, t3, q, g0, z0, z1, n2, ha1, hd1, hz1, hz2, hka, hdd, hsa, hlen, cRef2_at, spForm_mv, hF, spReadsL_mv, hR, Int.toNat_natCast, List.getElem?_map, List.length_map, Ins.v, Nat.mul_one, Nat.zero_add, f4, f5, f1, f3]
      repeat' ((first | (refine AG_of ?_ ?_ <;> intro h) | (refine AB_of ?_ ?_ <;> intro h) | (refine A_draw_of [] [] (by kernel_rfl) ?_ <;> have h := mark)) <;> simp only [go_sem, seval, eq_self, reduceCtorEq, e1, t1, e2, t2, e3, e5, e6, t3, q, g0, z0, z1, n2, ha1, hd1, hz1, hz2, hka, hdd, hsa, hlen, cRef2_at, spForm_mv, hF, spReadsL_mv, hR, Int.toNat_natCast, List.getElem?_map, List.length_map, Ins.v, Nat.mul_one, Nat.zero_add, f4, f5, f1, f3, h])
      exact ⟨⟨⟨by simp [upd, e1], by simp [upd, t1], by simp [upd, e2], by simp [upd, t2], by simp [upd, e3]⟩, by simp [upd, e5], k + 1, by simp [upd], by omega, by simp [upd, t3, hsn, hgv]⟩, by simp [upd, numOf, e6]; omega⟩

end Go.Proofs.YtkfmecmmbnehjaaGreat
