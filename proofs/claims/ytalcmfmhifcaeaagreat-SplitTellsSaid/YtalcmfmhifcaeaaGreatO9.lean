/-
The owners with the fewest on A: owner.Of by the plain reckoning. No condition.
-/
import Derived.Test.YtalcmfmhifcaeaaGreatO8
namespace Go.Proofs.YtalcmfmhifcaeaaGreat
set_option linter.unusedSimpArgs false
set_option linter.unusedVariables false

theorem one_iv (o : List Int) : (o.map iv).all V.one = true := by
  rw [List.all_eq_true]; intro x hx; obtain ⟨b, _, rfl⟩ := List.mem_map.1 hx; rfl
theorem drop_all {o : List Int} (h : o.length = 16) : (o.map iv).drop 16 = [] := List.drop_eq_nil_of_le (by simp [h])
attribute [go_sem high] one_iv
def oOf (s : S) (b : Nat) : List Int := match (s.st b).c with
  | .box l => (l.mapM i64Of).getD []
  | _ => []
theorem oOf_eq {s : S} {b v : Nat} {o : List Int} (h : s.st b = ⟨v, .box (o.map iv)⟩) : oOf s b = o := by
  unfold oOf
  rw [h]
  simp [mapM_of i64Of_v]
def ofMu (s : S) : Nat := 2 * cnt2 (oOf s 3) + (if oOf s 5 = oOf s 3 then 0 else 1)

def spOf : Spec := ⟨[], fun xs => match xs with
  | [x] => (prgOf x).bind fun p => if p.code.length ≤ 1000000000 then some (ownV (ofO p)) else none
  | _ => none⟩
def cOf : Orc := upd cGive 27 (some spGive)
theorem cOf_ok : ∀ g sp, cOf g = some sp → Impl Tryz.prog g sp := orc_upd cGive_ok give_impl
theorem cOf_at : cOf 27 = some spGive ∧ cOf 26 = some spRightP := ⟨rfl, rfl⟩
theorem spGive_mv : spGive.mv = [false, true] := rfl
theorem spGive_v {o : List Int} (ho : o.length = 16) {op d a b imm : Int} (h : rightB ⟨op, d, a, b, imm⟩ = true) : spGive.fn [.agg [.s (.int .i64 op), .s (.int .i64 d), .s (.int .i64 a), .s (.int .i64 b), .s (.int .i64 imm)], .obx (o.map iv)] = some (.io 1 (.tup []) (.obx ((giveO ⟨op, d, a, b, imm⟩ o).map iv))) := by
  have : ownOf (.agg (o.map iv)) = some o := ownOf_v ho
  simp only [spGive, this, Option.bind_some, if_pos h]

/-- what stands all the time -/
def ofB (p : Prg) (s : S) : Prop :=
  s.env 1 = .ptr 1 1 0 ∧ s.st 1 = ⟨1, .box [.lst false 5 (p.code.map Ins.v), .s (.int .i64 p.size), .lst false 1 (p.data.map u8v)]⟩ ∧ s.env 2 = .ptr 2 1 0 ∧ s.st 2 = ⟨1, .box (zeroO.map iv)⟩ ∧ s.env 3 = .ptr 3 1 0
def ofI1 (p : Prg) (s : S) : Prop := ofB p s ∧ ∃ k : Nat, s.env 4 = .s (.int .i64 (k + 1 : Nat)) ∧ k ≤ 15 ∧ s.st 3 = ⟨1, .box ((initO k).map iv)⟩
def ofI2 (p : Prg) (s : S) : Prop := ofB p s ∧ ∃ n v was, s.st 3 = ⟨1, .box ((iterO p.code n).map iv)⟩ ∧ s.env 5 = .ptr 5 v 0 ∧ s.st 5 = ⟨v, .box (was.map iv)⟩ ∧ was.length = 16 ∧ (was = iterO p.code n → passO p.code (iterO p.code n) = iterO p.code n)
def ofI3 (p : Prg) (n v : Nat) (s : S) : Prop := ofB p s ∧ s.env 5 = .ptr 5 v 0 ∧ s.st 5 = ⟨v, .box ((iterO p.code n).map iv)⟩ ∧ s.env 24 = .lst false 5 (p.code.map Ins.v) ∧ s.env 25 = .s (.int .i64 p.code.length) ∧
  ∃ k : Nat, s.env 26 = .s (.int .i64 k) ∧ k ≤ p.code.length ∧ s.st 3 = ⟨1, .box ((passO (p.code.take k) (iterO p.code n)).map iv)⟩

theorem zero_lit : zeroO.map iv = [.s (.int .i64 0), .s (.int .i64 0), .s (.int .i64 0), .s (.int .i64 0), .s (.int .i64 0), .s (.int .i64 0), .s (.int .i64 0), .s (.int .i64 0), .s (.int .i64 0), .s (.int .i64 0), .s (.int .i64 0), .s (.int .i64 0), .s (.int .i64 0), .s (.int .i64 0), .s (.int .i64 0), .s (.int .i64 0)] := rfl
set_option maxHeartbeats 4000000 in
set_option maxRecDepth 8000 in
theorem of_impl2 : Impl Tryz.prog 14 spOf := by
  refine impl_walk2 mixed cOf_ok eqT_ok Tryz.func14 rfl Tryz.ntmps14 (by kernel_rfl) ?_
  intro xs r h
  unfold spOf at h
  simp only at h
  (try split at h) <;> try (cases (show none = some r from h); done)
  rename_i x
  obtain ⟨p, hp, h3⟩ := Option.bind_eq_some_iff.1 h
  clear h
  split at h3
  case isFalse => cases h3
  rename_i hlen
  cases h3
  refine ⟨_, prg_args hp _, by simp, ?_⟩
  have hr := rightP_v p
  simp only [Prg.v] at hr
  unfold ofO
  cases c1 : rightP p
  · rw [c1] at hr
    simp only [go_sem, seval, eq_self, reduceCtorEq, Prg.v, cOf_at, spRightP_mv, hr]
    repeat' ((first | (refine AG_of ?_ ?_ <;> intro h) | (refine AB_of ?_ ?_ <;> intro h) | (refine A_draw_of [] [] (by kernel_rfl) ?_ <;> have h := mark)) <;> simp only [go_sem, seval, eq_self, reduceCtorEq, Prg.v, cOf_at, spRightP_mv, hr, h])
    all_goals (first | refine fin_ret ?_ | refine fin_normal ?_)
    all_goals simp only [resOf, Tryz.results14, Tryz.ntmps14, go_sem, seval, eq_self, reduceCtorEq]
    all_goals rfl
  rw [c1] at hr
  simp only [if_true]
  obtain ⟨hall, hcl⟩ := rightP_all c1
  simp only [go_sem, seval, eq_self, reduceCtorEq, Prg.v, cOf_at, spRightP_mv, hr]
  repeat' ((first | (refine AG_of ?_ ?_ <;> intro h) | (refine AB_of ?_ ?_ <;> intro h) | (refine A_draw_of [] [] (by kernel_rfl) ?_ <;> have h := mark)) <;> simp only [go_sem, seval, eq_self, reduceCtorEq, Prg.v, cOf_at, spRightP_mv, hr, h])
  refine A_loop (ofI1 p) (fun s => 17 - (numOf (s.env 4)).toNat) ?_ ?_
  · exact ⟨⟨by simp [upd], by simp [upd, V.unfrL, V.unfr], by simp [upd], by simp [upd]; rfl, by simp [upd]⟩, 0, by simp [upd], by omega, by simp [upd]; rfl⟩
  intro s hs
  obtain ⟨⟨e1, t1, e2, t2, e3⟩, k, e4, hk, t3⟩ := hs
  rcases Nat.lt_or_ge k 15 with hlt | hge
  · have g0 : decide (((k + 1 : Nat) : Int) < 16) = true := by simp; omega
    have z0 := Int.natCast_nonneg (k + 1)
    have z1 : ((k + 1 : Nat) : Int) < 16 := by omega
    have n2 : IntKind.i64.wrap (((k + 1 : Nat) : Int) + 1) = (k + 1 + 1 : Nat) := by rw [w_i64 (by omega) (by omega)]; omega
    have hs1 := spl_iv (o := initO k) (k := k + 1) (by rw [init_len]; omega) 2
    have hl := init_len k
    have hle : k + 1 + 1 ≤ 16 := by omega
    simp only [go_sem, seval, eq_self, reduceCtorEq, e1, t1, e2, t2, e3, e4, t3, g0, z0, z1, n2, hs1, hl, hle, List.length_map, Int.toNat_natCast, Nat.mul_one, Nat.zero_add]
    repeat' ((first | (refine AG_of ?_ ?_ <;> intro h) | (refine AB_of ?_ ?_ <;> intro h) | (refine A_draw_of [] [] (by kernel_rfl) ?_ <;> have h := mark)) <;> simp only [go_sem, seval, eq_self, reduceCtorEq, e1, t1, e2, t2, e3, e4, t3, g0, z0, z1, n2, hs1, hl, hle, List.length_map, Int.toNat_natCast, Nat.mul_one, Nat.zero_add, h])
    exact ⟨⟨⟨by simp [upd, e1], by simp [upd, t1], by simp [upd, e2], by simp [upd, t2], by simp [upd, e3]⟩, k + 1, by simp [upd], by omega, by simp [upd, initO]⟩, by simp [upd, numOf, e4]; omega⟩
  have hk15 : k = 15 := by omega
  subst hk15
  have hst : initO 15 = startO := by decide
  rw [hst] at t3
  simp only [go_sem, seval, eq_self, reduceCtorEq, e1, t1, e2, t2, e3, e4, t3]
  repeat' ((first | (refine AG_of ?_ ?_ <;> intro h) | (refine AB_of ?_ ?_ <;> intro h) | (refine A_draw_of [] [] (by kernel_rfl) ?_ <;> have h := mark)) <;> simp only [go_sem, seval, eq_self, reduceCtorEq, e1, t1, e2, t2, e3, e4, t3, h])
  refine A_loop (ofI2 p) ofMu ?_ ?_
  · exact ⟨⟨by simp [upd, e1], by simp [upd, t1], by simp [upd, e2], by simp [upd, t2], by simp [upd, e3]⟩, 0, _, zeroO, by simp [upd, t3]; rfl, by simp [upd]; rfl, by simp [upd]; rfl, rfl, fun h => absurd h (by show zeroO ≠ startO; decide)⟩
  clear e1 t1 e2 t2 e3 e4 t3
  intro s hs
  have hs0 := hs
  obtain ⟨⟨e1, t1, e2, t2, e3⟩, n, v, was, t3, e5, t5, hwl, hst2⟩ := hs
  have hil := iter_len p.code n
  have hq := eqInts_iv (a := was) (b := iterO p.code n) (by omega)
  have htw := take_iv hwl
  have hdw := drop_all hwl
  have hzd : List.drop 16 (List.map iv zeroO) = [] := rfl
  have hz16 : zeroO.length = 16 := rfl
  have hto := take_iv hil
  by_cases hw : was = iterO p.code n
  · have hb : (was == iterO p.code n) = true := by simp [hw]
    rw [hb] at hq
    have hfix := iter_fix hall (hst2 hw)
    rw [← hfix]
    simp only [go_sem, seval, eq_self, reduceCtorEq, e1, t1, e2, t2, e3, e5, t3, t5, hq, htw, hto, hil, hwl, hdw, hzd, hz16, List.length_map]
    repeat' ((first | (refine AG_of ?_ ?_ <;> intro h) | (refine AB_of ?_ ?_ <;> intro h) | (refine A_draw_of [] [] (by kernel_rfl) ?_ <;> have h := mark)) <;> simp only [go_sem, seval, eq_self, reduceCtorEq, e1, t1, e2, t2, e3, e5, t3, t5, hq, htw, hto, hil, hwl, hdw, hzd, hz16, List.length_map, h])
    all_goals (first | refine fin_ret ?_ | refine fin_normal ?_)
    all_goals simp only [resOf, Tryz.results14, Tryz.ntmps14, go_sem, seval, eq_self, reduceCtorEq, e2, hto, hil, List.length_map]
    all_goals rfl
  have hb : (was == iterO p.code n) = false := by simp [hw]
  rw [hb] at hq
  simp only [go_sem, seval, eq_self, reduceCtorEq, e1, t1, e2, t2, e3, e5, t3, t5, hq, htw, hto, hil, hwl, hdw, hzd, hz16, List.length_map]
  repeat' ((first | (refine AG_of ?_ ?_ <;> intro h) | (refine AB_of ?_ ?_ <;> intro h) | (refine A_draw_of [] [] (by kernel_rfl) ?_ <;> have h := mark)) <;> simp only [go_sem, seval, eq_self, reduceCtorEq, e1, t1, e2, t2, e3, e5, t3, t5, hq, htw, hto, hil, hwl, hdw, hzd, hz16, List.length_map, h])
  have hmu : ofMu s = 2 * cnt2 (iterO p.code n) + 1 := by
    unfold ofMu
    rw [oOf_eq t3, oOf_eq t5, if_neg hw]
  clear hq htw hto hwl hdw hb
  refine A_loop (ofI3 p n v) (fun s => p.code.length - (numOf (s.env 26)).toNat) ?_ ?_
  · exact ⟨⟨by simp [upd, e1], by simp [upd, t1], by simp [upd, e2], by simp [upd, t2], by simp [upd, e3]⟩, by simp [upd, e5], by simp [upd], by simp [upd], by simp [upd], 0, by simp [upd], by omega, by simp [upd, t3, passO]⟩
  clear e1 t1 e2 t2 e3 e5 t3 t5
  intro s' hs'
  obtain ⟨⟨e1, t1, e2, t2, e3⟩, e5, t5, e24, e25, k, e26, hk, t3⟩ := hs'
  have hpl : (passO (p.code.take k) (iterO p.code n)).length = 16 := by rw [pass_len, hil]
  rcases Nat.lt_or_ge k p.code.length with hlt | hge
  · obtain ⟨⟨op, d, a, b, imm⟩, q⟩ : ∃ i, p.code[k]? = some i := ⟨p.code[k], List.getElem?_eq_getElem hlt⟩
    have hri := List.all_eq_true.1 hall _ (List.mem_of_getElem? q)
    have g0 : decide ((k : Int) < p.code.length) = true := by simp; omega
    have z0 := Int.natCast_nonneg k
    have n2 : IntKind.i64.wrap ((k : Int) + 1) = (k + 1 : Nat) := by rw [w_i64 (by omega) (by omega)]; omega
    have hG := spGive_v hpl hri
    have hsn : passO (p.code.take (k + 1)) (iterO p.code n) = giveO ⟨op, d, a, b, imm⟩ (passO (p.code.take k) (iterO p.code n)) := by
      rw [List.take_add_one, q]
      simp [passO, List.foldl_append]
    have hgl : (giveO ⟨op, d, a, b, imm⟩ (passO (p.code.take k) (iterO p.code n))).length = 16 := by rw [give_len, hpl]
    simp only [go_sem, seval, eq_self, reduceCtorEq, e1, t1, e2, t2, e3, e5, t5, e24, e25, e26, t3, q, g0, z0, n2, cOf_at, spGive_mv, hG, hpl, hgl, Int.toNat_natCast, List.getElem?_map, List.length_map, Ins.v]
    repeat' ((first | (refine AG_of ?_ ?_ <;> intro h) | (refine AB_of ?_ ?_ <;> intro h) | (refine A_draw_of [] [] (by kernel_rfl) ?_ <;> have h := mark)) <;> simp only [go_sem, seval, eq_self, reduceCtorEq, e1, t1, e2, t2, e3, e5, t5, e24, e25, e26, t3, q, g0, z0, n2, cOf_at, spGive_mv, hG, hpl, hgl, Int.toNat_natCast, List.getElem?_map, List.length_map, Ins.v, h])
    exact ⟨⟨⟨by simp [upd, e1], by simp [upd, t1], by simp [upd, e2], by simp [upd, t2], by simp [upd, e3]⟩, by simp [upd, e5], by simp [upd, t5], by simp [upd, e24], by simp [upd, e25], k + 1, by simp [upd], by omega, by simp [upd, hsn]⟩, by simp [upd, numOf, e26]; omega⟩
  · have hkl : k = p.code.length := by omega
    subst hkl
    have g0 : decide ((p.code.length : Int) < p.code.length) = false := by simp
    rw [List.take_length] at t3 hpl
    have htw := take_iv hil
    have hdw := drop_all hil
    have hzd : List.drop 16 (List.map iv zeroO) = [] := rfl
    simp only [go_sem, seval, eq_self, reduceCtorEq, e1, t1, e2, t2, e3, e5, t5, e24, e25, e26, t3, g0, hil, htw, hdw, hzd, List.length_map]
    repeat' ((first | (refine AG_of ?_ ?_ <;> intro h) | (refine AB_of ?_ ?_ <;> intro h) | (refine A_draw_of [] [] (by kernel_rfl) ?_ <;> have h := mark)) <;> simp only [go_sem, seval, eq_self, reduceCtorEq, e1, t1, e2, t2, e3, e5, t5, e24, e25, e26, t3, g0, hil, htw, hdw, hzd, List.length_map, h])
    have hm : ∀ s'' : S, s''.st 3 = ⟨1, .box ((passO p.code (iterO p.code n)).map iv)⟩ → s''.st 5 = ⟨v + 1, .box ((iterO p.code n).map iv)⟩ → ofMu s'' < ofMu s := fun s'' h3 h5 => by
      rw [hmu]
      unfold ofMu
      rw [oOf_eq h3, oOf_eq h5]
      split
      · rename_i h
        rw [← h]; omega
      · rename_i h
        have := (pass_ok hall (iter_ok hall n)).2.cnt (iter_ok hall n) (fun e => h e.symm)
        omega
    refine ⟨⟨⟨by simp [upd, e1], by simp [upd, t1], by simp [upd, e2], by simp [upd, t2], by simp [upd, e3]⟩, n + 1, v + 1, iterO p.code n, by simp [upd, t3, iterO], by simp [upd], by simp [upd], hil, fun h => ?_⟩, hm _ (by simp [upd, t3]) (by simp [upd])⟩
    rw [iterO] at h ⊢
    rw [← h, ← h]
end Go.Proofs.YtalcmfmhifcaeaaGreat
