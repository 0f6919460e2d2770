/-
Package owner by the plain reckoning: Closed, On, Side. No condition.
-/
import Derived.Test.YtkfmecmmbnehjaaGreatO4
namespace Go.Proofs.YtkfmecmmbnehjaaGreat
set_option linter.unusedSimpArgs false
set_option linter.unusedVariables false

def closedB (p : Prg) (o : List Int) : Bool := rightP p && oAt o 0 == 0 && (o.drop 1).all (fun x => x == 1 || x == 2) && p.code.all (fun i => !wantsB i o)
def spClosed : Spec := ⟨[], fun xs => match xs with
  | [x, y] => (prgOf x).bind fun p => (ownOf y).bind fun o => some (.s (.bool (closedB p o)))
  | _ => none⟩
def cOwn5 : Orc := upd (upd cOwn4 73 (some spCl1)) 75 (some spCl2)
theorem cOwn5_ok : ∀ g sp, cOwn5 g = some sp → Impl Tryz.prog g sp := orc_upd (orc_upd cOwn4_ok cl1_impl) cl2_impl
theorem cOwn5_1 : cOwn5 73 = some spCl1 := rfl
theorem cOwn5_2 : cOwn5 75 = some spCl2 := rfl
def cOwn6 : Orc := upd (upd cOwn5 72 (some (spContFI cOwn5))) 74 (some (spContFN cOwn5))
theorem cOwn6_ok : ∀ g sp, cOwn6 g = some sp → Impl Tryz.prog g sp := orc_upd (orc_upd cOwn5_ok (contFI_impl cOwn5_ok)) (contFN_impl cOwn5_ok)
theorem cOwn6_at : cOwn6 72 = some (spContFI cOwn5) ∧ cOwn6 74 = some (spContFN cOwn5) ∧ cOwn6 71 = some spRightP := ⟨rfl, rfl, rfl⟩
theorem own_args {x y : V} {p : Prg} {o : List Int} (h : prgOf x = some p) (k : ownOf y = some o) : ∀ w J vs, Args w J vs [x, y] → Args w J vs [p.v, ownV o] := by
  obtain ⟨rfl, _⟩ := ownOf_eq k
  exact (SeesL.cons (prgOf_sees h) .same).args
theorem head_iv {o : List Int} (h : o.length = 16) : (o.map iv).head? = some (.s (.int .i64 (oAt o 0))) := by
  cases o with
  | nil => cases h
  | cons a o => rfl
theorem scal_iv (o : List Int) : (o.map iv).all V.scal1 = true := by
  rw [List.all_eq_true]; intro x hx; obtain ⟨b, _, rfl⟩ := List.mem_map.1 hx; rfl
theorem rightP_all {p : Prg} (h : rightP p = true) : p.code.all rightB = true ∧ p.code.length ≤ 2000 := by
  simp only [rightP, headB, Bool.and_eq_true, decide_eq_true_eq] at h
  obtain ⟨⟨h1, h2⟩, _⟩ := h
  exact ⟨h2, by omega⟩
set_option maxHeartbeats 2000000 in
theorem closed_impl : Impl Tryz.prog 47 spClosed := by
  refine impl_walk2 mixed cOwn6_ok eqT_ok Tryz.func47 rfl Tryz.ntmps47 (by kernel_rfl) ?_
  intro xs r h
  unfold spClosed at h
  simp only at h
  (try split at h) <;> try (cases (show none = some r from h); done)
  rename_i x y
  obtain ⟨p, hp, h3⟩ := Option.bind_eq_some_iff.1 h
  obtain ⟨o, ho, h4⟩ := Option.bind_eq_some_iff.1 h3
  clear h h3
  cases h4
  obtain ⟨_, hlen⟩ := ownOf_eq ho
  refine ⟨_, own_args hp ho, by simp, ?_⟩
  have hr := rightP_v p
  have hd := head_iv hlen
  have hdt : List.take 15 (List.drop 1 (o.map iv)) = (o.drop 1).map iv := by
    rw [← List.map_drop, List.take_of_length_le (by simp [hlen])]
  have hsc := scal_iv (o.drop 1)
  have hc1 : (spContFI cOwn5).fn [.lst false 1 ((o.drop 1).map iv), .fn 73 []] = some (.s (.bool ((o.drop 1).any fun x => x != 1 && x != 2))) :=
    contFI_v cOwn5_1 rfl rfl _ _ (by simp [hlen]) fun x _ => rfl
  simp only [Prg.v] at hr
  unfold closedB
  cases c1 : rightP p
  · rw [c1] at hr
    simp only [go_sem, seval, eq_self, reduceCtorEq, Prg.v, ownV, cOwn6_at, spRightP_mv, hr]
    repeat' ((first | (refine AG_of ?_ ?_ <;> intro h) | (refine AB_of ?_ ?_ <;> intro h) | (refine A_draw_of [] [] (by kernel_rfl) ?_ <;> have h := mark)) <;> simp only [go_sem, seval, eq_self, reduceCtorEq, Prg.v, ownV, cOwn6_at, spRightP_mv, hr, h])
    all_goals (first | refine fin_ret ?_ | refine fin_normal ?_)
    all_goals simp only [resOf, Tryz.results47, Tryz.ntmps47, go_sem, seval, eq_self, reduceCtorEq]
    all_goals simp
  rw [c1] at hr
  obtain ⟨hall, hcl⟩ := rightP_all c1
  have hc2 : (spContFN cOwn5).fn [.lst false 5 (p.code.map Ins.v), .fn 75 [.ept (o.map iv)]] = some (.s (.bool (p.code.any fun i => wantsB i o))) :=
    contFN_v cOwn5_2 rfl rfl _ _ (by omega) fun i hi => by
      have : ownOf (.agg (o.map iv)) = some o := ownOf_v hlen
      have hri := List.all_eq_true.1 hall i hi
      obtain ⟨op, d, a, b, imm⟩ := i
      simp only [spCl2, Ins.v, this, Option.bind_some, if_pos hri]
  have he : (o.drop 1).all (fun x => x == 1 || x == 2) = !((o.drop 1).any fun x => x != 1 && x != 2) := by
    rw [List.not_any_eq_all_not]
    congr 1
    funext x
    simp [bne]
  have he2 : p.code.all (fun i => !wantsB i o) = !(p.code.any fun i => wantsB i o) := by rw [List.not_any_eq_all_not]
  rw [he, he2]
  obtain ⟨b1, hb1⟩ : ∃ b, ((o.drop 1).any fun x => x != 1 && x != 2) = b := ⟨_, rfl⟩
  obtain ⟨b2, hb2⟩ : ∃ b, (p.code.any fun i => wantsB i o) = b := ⟨_, rfl⟩
  rw [hb1] at hc1 ⊢
  rw [hb2] at hc2 ⊢
  simp only [go_sem, seval, eq_self, reduceCtorEq, Prg.v, ownV, cOwn6_at, spRightP_mv, hr, hd, hdt, hsc, hc1, hc2, spContFI_mv, spContFN_mv, hlen, List.length_map]
  repeat' ((first | (refine AG_of ?_ ?_ <;> intro h) | (refine AB_of ?_ ?_ <;> intro h) | (refine A_draw_of [] [] (by kernel_rfl) ?_ <;> have h := mark)) <;> simp only [go_sem, seval, eq_self, reduceCtorEq, Prg.v, ownV, cOwn6_at, spRightP_mv, hr, hd, hdt, hsc, hc1, hc2, spContFI_mv, spContFN_mv, hlen, List.length_map, h])
  all_goals (first | refine fin_ret ?_ | refine fin_normal ?_)
  all_goals simp only [resOf, Tryz.results47, Tryz.ntmps47, go_sem, seval, eq_self, reduceCtorEq]
  all_goals simp_all

def onI (o : List Int) (r : Int) : Int := if r < 1 ∨ 16 ≤ r then 0 else oAt o r
def spOn : Spec := ⟨[], fun xs => match xs with
  | [y, .s (.int .i64 r)] => (ownOf y).bind fun o => some (.s (.int .i64 (onI o r)))
  | _ => none⟩
theorem on_impl : Impl Tryz.prog 82 spOn := by
  refine impl_walk mixed cOwn6_ok eqT_ok Tryz.func82 rfl Tryz.ntmps82 (by kernel_rfl) ?_
  intro xs r h
  unfold spOn at h
  simp only at h
  (try split at h) <;> try (cases (show none = some r from h); done)
  rename_i y r
  obtain ⟨o, ho, h2⟩ := Option.bind_eq_some_iff.1 h
  clear h
  cases h2
  obtain ⟨rfl, hlen⟩ := ownOf_eq ho
  clear ho
  refine ⟨by simp [ownV], ?_⟩
  unfold onI
  by_cases c1 : r < 1
  · have g1 : decide (r < 1) = true := by simp [c1]
    rw [if_pos (.inl c1)]
    simp only [go_sem, seval, eq_self, reduceCtorEq, ownV, g1]
    repeat' ((first | (refine AG_of ?_ ?_ <;> intro h) | (refine AB_of ?_ ?_ <;> intro h) | (refine A_draw_of [] [] (by kernel_rfl) ?_ <;> have h := mark)) <;> simp only [go_sem, seval, eq_self, reduceCtorEq, ownV, g1, h])
    all_goals (first | refine fin_ret ?_ | refine fin_normal ?_)
    all_goals simp only [resOf, Tryz.results82, Tryz.ntmps82, go_sem, seval, eq_self, reduceCtorEq]
  have g1 : decide (r < 1) = false := by simp; omega
  by_cases c2 : 16 ≤ r
  · have g2 : decide (16 ≤ r) = true := by simp [c2]
    rw [if_pos (.inr c2)]
    simp only [go_sem, seval, eq_self, reduceCtorEq, ownV, g1, g2]
    repeat' ((first | (refine AG_of ?_ ?_ <;> intro h) | (refine AB_of ?_ ?_ <;> intro h) | (refine A_draw_of [] [] (by kernel_rfl) ?_ <;> have h := mark)) <;> simp only [go_sem, seval, eq_self, reduceCtorEq, ownV, g1, g2, h])
    all_goals (first | refine fin_ret ?_ | refine fin_normal ?_)
    all_goals simp only [resOf, Tryz.results82, Tryz.ntmps82, go_sem, seval, eq_self, reduceCtorEq]
  have g2 : decide (16 ≤ r) = false := by simp; omega
  rw [if_neg (by omega)]
  obtain ⟨k, rfl⟩ : ∃ k : Nat, r = k := ⟨r.toNat, by omega⟩
  have hd := drop_iv (o := o) (k := k) (by omega)
  have h0 := Int.natCast_nonneg k
  have h1 : (k : Int) < 16 := by omega
  simp only [go_sem, seval, eq_self, reduceCtorEq, ownV, g1, g2, h0, h1, hd, Int.toNat_natCast, Nat.mul_one, Nat.zero_add]
  repeat' ((first | (refine AG_of ?_ ?_ <;> intro h) | (refine AB_of ?_ ?_ <;> intro h) | (refine A_draw_of [] [] (by kernel_rfl) ?_ <;> have h := mark)) <;> simp only [go_sem, seval, eq_self, reduceCtorEq, ownV, g1, g2, h0, h1, hd, Int.toNat_natCast, Nat.mul_one, Nat.zero_add, h])
  all_goals (first | refine fin_ret ?_ | refine fin_normal ?_)
  all_goals simp only [resOf, Tryz.results82, Tryz.ntmps82, go_sem, seval, eq_self, reduceCtorEq]

def sideI (i : Ins) (o : List Int) : Int := if reckB i = true then (if (onI o i.d == 1 || (i.d == 0 && !onEB i o)) = true then 1 else 2) else 0
def spSide : Spec := ⟨[], fun xs => match xs with
  | [.agg [.s (.int .i64 op), .s (.int .i64 d), .s (.int .i64 a), .s (.int .i64 b), .s (.int .i64 imm)], y] => (ownOf y).bind fun o => some (.s (.int .i64 (sideI ⟨op, d, a, b, imm⟩ o)))
  | _ => none⟩
def cOwn7 : Orc := upd (upd cOwn6 82 (some spOn)) 47 (some spClosed)
theorem cOwn7_ok : ∀ g sp, cOwn7 g = some sp → Impl Tryz.prog g sp := orc_upd (orc_upd cOwn6_ok on_impl) closed_impl
theorem cOwn7_at : cOwn7 82 = some spOn ∧ cOwn7 101 = some spReck ∧ cOwn7 102 = some spOnE := ⟨rfl, rfl, rfl⟩
theorem spOn_mv : spOn.mv = [] := rfl
theorem spOn_v {o : List Int} (ho : o.length = 16) (r : Int) : spOn.fn [.agg (o.map iv), .s (.int .i64 r)] = some (.s (.int .i64 (onI o r))) := by
  have : ownOf (.agg (o.map iv)) = some o := ownOf_v ho
  simp only [spOn, this, Option.bind_some]
theorem side_impl : Impl Tryz.prog 89 spSide := by
  refine impl_walk mixed cOwn7_ok eqT_ok Tryz.func89 rfl Tryz.ntmps89 (by kernel_rfl) ?_
  intro xs r h
  unfold spSide at h
  simp only at h
  (try split at h) <;> try (cases (show none = some r from h); done)
  rename_i op d a b imm y
  obtain ⟨o, ho, h2⟩ := Option.bind_eq_some_iff.1 h
  clear h
  cases h2
  obtain ⟨rfl, hlen⟩ := ownOf_eq ho
  clear ho
  have hOn := spOn_v hlen d
  have hE := spOnE_v hlen op d a b imm
  have ht := take_iv hlen
  refine ⟨by simp [ownV], ?_⟩
  simp only [go_sem, seval, eq_self, reduceCtorEq, ownV, cOwn7_at, spReck_mv, spReck_fn, spOn_mv, hOn, spOnE_mv, hE, ht, hlen, List.length_map]
  repeat' ((first | (refine AG_of ?_ ?_ <;> intro h) | (refine AB_of ?_ ?_ <;> intro h) | (refine A_draw_of [] [] (by kernel_rfl) ?_ <;> have h := mark)) <;> simp only [go_sem, seval, eq_self, reduceCtorEq, ownV, cOwn7_at, spReck_mv, spReck_fn, spOn_mv, hOn, spOnE_mv, hE, ht, hlen, List.length_map, h])
  all_goals (first | refine fin_ret ?_ | refine fin_normal ?_)
  all_goals simp only [resOf, Tryz.results89, Tryz.ntmps89, go_sem, seval, eq_self, reduceCtorEq]
  all_goals (simp only [sideI, V.s.injEq, Value.int.injEq, true_and]; simp_all)
end Go.Proofs.YtkfmecmmbnehjaaGreat
