/-
The reference's owners by the plain reckoning: what is read, onE, anyE, owned, Side, Closed. No condition.
-/
import Derived.Test.YtkfmecmmbnehjaaGreatO5
import Derived.Test.YtkfmecmmbnehjaaGreatL0
namespace Go.Proofs.YtkfmecmmbnehjaaGreat
set_option linter.unusedSimpArgs false
set_option linter.unusedVariables false

theorem rhas_at : cOwn7 55 = some spForm ∧ cOwn7 92 = some spHas ∧ cOwn7 61 = some spRight ∧ cOwn7 54 = some spRightP := ⟨rfl, rfl, rfl, rfl⟩
set_option maxHeartbeats 1000000 in
theorem rreads_impl : Impl Tryz.prog 58 spReads := by
  refine impl_walk mixed cOwn7_ok eqT_ok Tryz.func58 rfl Tryz.ntmps58 (by kernel_rfl) ?_
  intro xs r h
  unfold spReads at h
  simp only at h
  (try split at h) <;> try (cases (show none = some r from h); done)
  rename_i op d a b imm
  cases h
  refine ⟨by simp, ?_⟩
  simp only [go_sem, seval, eq_self, reduceCtorEq, rhas_at, spRight_mv, spRight_fn, spForm_mv, spForm_fn, spHas_mv, spHas_fn]
  repeat' ((first | (refine AG_of ?_ ?_ <;> intro h) | (refine AB_of ?_ ?_ <;> intro h) | (refine A_draw_of [] [] (by kernel_rfl) ?_ <;> have h := mark)) <;> simp only [go_sem, seval, eq_self, reduceCtorEq, rhas_at, spRight_mv, spRight_fn, spForm_mv, spForm_fn, spHas_mv, spHas_fn, h])
  all_goals (first | refine fin_ret ?_ | refine fin_normal ?_)
  all_goals simp only [resOf, Tryz.results58, Tryz.ntmps58, go_sem, seval, eq_self, reduceCtorEq]
  all_goals (simp [readsL, ownOr, *] at *; try simp_all)
def spReadsL : Spec := ⟨[], fun xs => (spReads.fn xs).map asLst⟩
theorem spReadsL_mv : spReadsL.mv = [] := rfl
theorem readsL_v (op d a b imm : Int) {l : List Int} (h : readsL ⟨op, d, a, b, imm⟩ = l) : spReadsL.fn [.agg [.s (.int .i64 op), .s (.int .i64 d), .s (.int .i64 a), .s (.int .i64 b), .s (.int .i64 imm)]] = some (if l.isEmpty then .s (.slice none 0 0) else .lst true 1 (l.map iv)) := by
  simp only [spReadsL, reads_v op d a b imm h, Option.map_some]
  split <;> rfl

def spROnE : Spec := ⟨[], fun xs => match xs with
  | [y, .s (.int .i64 r)] => (ownOf y).bind fun o => if r < 16 then some (.s (.bool (decide (0 < r) && oAt o r == 2))) else none
  | _ => none⟩
theorem ronE_impl : Impl Tryz.prog 56 spROnE := by
  refine impl_walk mixed cOwn7_ok eqT_ok Tryz.func56 rfl Tryz.ntmps56 (by kernel_rfl) ?_
  intro xs r h
  unfold spROnE at h
  simp only at h
  (try split at h) <;> try (cases (show none = some r from h); done)
  rename_i y r
  obtain ⟨o, ho, h2⟩ := Option.bind_eq_some_iff.1 h
  clear h
  split at h2
  case isFalse => cases h2
  rename_i hr
  cases h2
  obtain ⟨rfl, hlen⟩ := ownOf_eq ho
  clear ho
  refine ⟨by simp [ownV], ?_⟩
  by_cases c1 : 0 < r
  case neg =>
    have g1 : decide (0 < r) = false := by simp; omega
    simp only [go_sem, seval, eq_self, reduceCtorEq, ownV, g1]
    repeat' ((first | (refine AG_of ?_ ?_ <;> intro h) | (refine AB_of ?_ ?_ <;> intro h) | (refine A_draw_of [] [] (by kernel_rfl) ?_ <;> have h := mark)) <;> simp only [go_sem, seval, eq_self, reduceCtorEq, ownV, g1, h])
    all_goals (first | refine fin_ret ?_ | refine fin_normal ?_)
    all_goals simp only [resOf, Tryz.results56, Tryz.ntmps56, go_sem, seval, eq_self, reduceCtorEq]
    all_goals simp
  have g1 : decide (0 < r) = true := by simp [c1]
  obtain ⟨k, rfl⟩ : ∃ k : Nat, r = k := ⟨r.toNat, by omega⟩
  have hd := drop_iv (o := o) (k := k) (by omega)
  have h0 := Int.natCast_nonneg k
  simp only [go_sem, seval, eq_self, reduceCtorEq, ownV, g1, h0, hr, hd, Int.toNat_natCast, Nat.mul_one, Nat.zero_add]
  repeat' ((first | (refine AG_of ?_ ?_ <;> intro h) | (refine AB_of ?_ ?_ <;> intro h) | (refine A_draw_of [] [] (by kernel_rfl) ?_ <;> have h := mark)) <;> simp only [go_sem, seval, eq_self, reduceCtorEq, ownV, g1, h0, hr, hd, Int.toNat_natCast, Nat.mul_one, Nat.zero_add, h])
  all_goals (first | refine fin_ret ?_ | refine fin_normal ?_)
  all_goals simp only [resOf, Tryz.results56, Tryz.ntmps56, go_sem, seval, eq_self, reduceCtorEq]
  all_goals simp

def cRef1 : Orc := upd (upd cOwn7 58 (some spReadsL)) 56 (some spROnE)
theorem cRef1_ok : ∀ g sp, cRef1 g = some sp → Impl Tryz.prog g sp := orc_upd (orc_upd cOwn7_ok (impl_lst rreads_impl)) ronE_impl
theorem cRef1_at : cRef1 58 = some spReadsL ∧ cRef1 56 = some spROnE := ⟨rfl, rfl⟩
theorem spROnE_mv : spROnE.mv = [] := rfl
theorem spROnE_v {o : List Int} (ho : o.length = 16) {r : Int} (h : r < 16) : spROnE.fn [.agg (o.map iv), .s (.int .i64 r)] = some (.s (.bool (decide (0 < r) && oAt o r == 2))) := by
  have : ownOf (.agg (o.map iv)) = some o := ownOf_v ho
  simp only [spROnE, this, Option.bind_some, if_pos h]

def anyEB (o l : List Int) : Bool := l.any fun r => decide (0 < r) && oAt o r == 2
def spAnyE : Spec := ⟨[], fun xs => match xs with
  | [y, x] => (ownOf y).bind fun o => (lOf 1 x).bind fun l => (l.mapM i64Of).bind fun c => if (∀ r ∈ c, r < 16) ∧ c.length ≤ 1000000000 then some (.s (.bool (anyEB o c))) else none
  | _ => none⟩
def anyI (o l : List Int) (s : S) : Prop :=
  s.env 1 = .lst false 1 (l.map iv) ∧ s.env 2 = .ptr 2 1 0 ∧ s.st 2 = ⟨1, .box (o.map iv)⟩ ∧ ∃ k : Nat, s.env 5 = .s (.int .i64 k) ∧ k ≤ l.length ∧ anyEB o (l.take k) = false
set_option maxHeartbeats 1000000 in
theorem anyE_impl : Impl Tryz.prog 57 spAnyE := by
  refine impl_walk2 mixed cRef1_ok eqT_ok Tryz.func57 rfl Tryz.ntmps57 (by kernel_rfl) ?_
  intro xs r h
  unfold spAnyE at h
  simp only at h
  (try split at h) <;> try (cases (show none = some r from h); done)
  rename_i y x
  obtain ⟨o, ho, h2⟩ := Option.bind_eq_some_iff.1 h
  obtain ⟨l, hl, h3⟩ := Option.bind_eq_some_iff.1 h2
  obtain ⟨c, hc, h4⟩ := Option.bind_eq_some_iff.1 h3
  clear h h2 h3
  have e := mapM_eq (fun _ _ => i64Of_eq) hc
  subst e
  split at h4
  case isFalse => cases h4
  rename_i hh
  obtain ⟨hbd, hcl⟩ := hh
  cases h4
  obtain ⟨rfl, hlen⟩ := ownOf_eq ho
  clear ho
  refine ⟨_, (SeesL.cons .same (.cons (lOf_sees hl) .nil)).args, by simp [ownV], ?_⟩
  have ht := take_iv hlen
  simp only [go_sem, seval, eq_self, reduceCtorEq, ownV, List.length_map]
  repeat' ((first | (refine AG_of ?_ ?_ <;> intro h) | (refine AB_of ?_ ?_ <;> intro h) | (refine A_draw_of [] [] (by kernel_rfl) ?_ <;> have h := mark)) <;> simp only [go_sem, seval, eq_self, reduceCtorEq, ownV, List.length_map, h])
  refine A_loop (anyI o c) (fun s => c.length - (numOf (s.env 5)).toNat) ?_ ?_
  · refine ⟨by simp [upd, init, V.unfr], by simp [upd, init], by simp [upd, init, V.unfr, unfrL_iv, V.cells], 0, by simp [upd], by omega, rfl⟩
  intro s hs
  obtain ⟨e1, e2, t2, k, e5, hk, hfi⟩ := hs
  rcases Nat.lt_or_ge k c.length with hlt | hge
  · obtain ⟨r, q⟩ : ∃ i, c[k]? = some i := ⟨c[k], List.getElem?_eq_getElem hlt⟩
    have g0 : decide ((k : Int) < c.length) = true := by simp; omega
    have z0 := Int.natCast_nonneg k
    have n2 : IntKind.i64.wrap ((k : Int) + 1) = (k + 1 : Nat) := by rw [w_i64 (by omega) (by omega)]; omega
    have hr16 := hbd r (List.mem_of_getElem? q)
    have hE := spROnE_v hlen hr16
    have hd : c.take (k + 1) = c.take k ++ [r] := by rw [List.take_add_one, q]; rfl
    have hany : anyEB o (c.take (k + 1)) = (decide (0 < r) && oAt o r == 2) := by
      rw [hd]; unfold anyEB at hfi ⊢; rw [List.any_append, hfi]; simp
    cases hb : (decide (0 < r) && oAt o r == 2)
    · rw [hb] at hE hany
      simp only [go_sem, seval, eq_self, reduceCtorEq, e1, e2, t2, e5, q, g0, z0, n2, cRef1_at, spROnE_mv, hE, ht, hlen, iv, Int.toNat_natCast, List.getElem?_map, List.length_map]
      repeat' ((first | (refine AG_of ?_ ?_ <;> intro h) | (refine AB_of ?_ ?_ <;> intro h) | (refine A_draw_of [] [] (by kernel_rfl) ?_ <;> have h := mark)) <;> simp only [go_sem, seval, eq_self, reduceCtorEq, e1, e2, t2, e5, q, g0, z0, n2, cRef1_at, spROnE_mv, hE, ht, hlen, iv, Int.toNat_natCast, List.getElem?_map, List.length_map, h])
      exact ⟨⟨by simp [upd, e1], by simp [upd, e2], by simp [upd, t2], k + 1, by simp [upd], by omega, hany⟩, by simp [upd, numOf, e5]; omega⟩
    · rw [hb] at hE hany
      have hr : anyEB o c = true := by
        have : c = c.take (k + 1) ++ c.drop (k + 1) := (List.take_append_drop _ _).symm
        unfold anyEB at hany ⊢
        rw [this, List.any_append, hany]; rfl
      rw [hr]
      simp only [go_sem, seval, eq_self, reduceCtorEq, e1, e2, t2, e5, q, g0, z0, n2, cRef1_at, spROnE_mv, hE, ht, hlen, iv, Int.toNat_natCast, List.getElem?_map, List.length_map]
      repeat' ((first | (refine AG_of ?_ ?_ <;> intro h) | (refine AB_of ?_ ?_ <;> intro h) | (refine A_draw_of [] [] (by kernel_rfl) ?_ <;> have h := mark)) <;> simp only [go_sem, seval, eq_self, reduceCtorEq, e1, e2, t2, e5, q, g0, z0, n2, cRef1_at, spROnE_mv, hE, ht, hlen, iv, Int.toNat_natCast, List.getElem?_map, List.length_map, h])
      all_goals (first | refine fin_ret ?_ | refine fin_normal ?_)
      all_goals simp only [resOf, Tryz.results57, Tryz.ntmps57, go_sem, seval, eq_self, reduceCtorEq]
  · have hkl : k = c.length := by omega
    have g0 : decide ((k : Int) < c.length) = false := by simp; omega
    rw [hkl, List.take_length] at hfi
    rw [hfi]
    simp only [go_sem, seval, eq_self, reduceCtorEq, e1, e2, t2, e5, g0, List.length_map]
    repeat' ((first | (refine AG_of ?_ ?_ <;> intro h) | (refine AB_of ?_ ?_ <;> intro h) | (refine A_draw_of [] [] (by kernel_rfl) ?_ <;> have h := mark)) <;> simp only [go_sem, seval, eq_self, reduceCtorEq, e1, e2, t2, e5, g0, List.length_map, h])
    all_goals (first | refine fin_ret ?_ | refine fin_normal ?_)
    all_goals simp only [resOf, Tryz.results57, Tryz.ntmps57, go_sem, seval, eq_self, reduceCtorEq]
end Go.Proofs.YtkfmecmmbnehjaaGreat
