/-
The place of a number in a list. No condition.
-/
import Derived.Test.YtkfmecmmbnehjaaGreatO3
namespace Go.Proofs.YtkfmecmmbnehjaaGreat
set_option linter.unusedSimpArgs false
set_option linter.unusedVariables false

/-- the place of a number in a list -/
def idxL (v : Int) : List Int → Nat → Int
  | [], _ => -1
  | a :: l, k => if (a == v) = true then k else idxL v l (k + 1)
def spIndexI : Spec := ⟨[], fun xs => match xs with
  | [x, .s (.int .i64 v)] => (lOf 1 x).bind fun l => (l.mapM i64Of).bind fun c => if c.length ≤ 1000000000 then some (.s (.int .i64 (idxL v c 0))) else none
  | _ => none⟩
def spContI : Spec := ⟨[], fun xs => match xs with
  | [x, .s (.int .i64 v)] => (lOf 1 x).bind fun l => (l.mapM i64Of).bind fun c => if c.length ≤ 1000000000 then some (.s (.bool (decide (0 ≤ idxL v c 0)))) else none
  | _ => none⟩
theorem spIndexI_mv : spIndexI.mv = [] := rfl
theorem spContI_mv : spContI.mv = [] := rfl
theorem beq_swap (a b : Int) : (a == b) = (b == a) := by simp [eq_comm, Bool.beq_eq_decide_eq]

def indexII (v : Int) (c : List Int) (s : S) : Prop := s.env 0 = .lst false 1 (c.map iv) ∧ s.env 1 = .s (.int .i64 v) ∧ s.env 7 = .s (.int .i64 c.length) ∧ ∃ k : Nat, s.env 8 = .s (.int .i64 k) ∧ k ≤ c.length ∧ idxL v c 0 = idxL v (c.drop k) k
set_option maxHeartbeats 1000000 in
theorem indexI_impl : Impl Tryz.prog 69 spIndexI := by
  refine impl_walk2 mixed orc0_ok eqT_ok Tryz.func69 rfl Tryz.ntmps69 (by kernel_rfl) ?_
  intro xs r h
  unfold spIndexI at h
  simp only at h
  (try split at h) <;> try (cases (show none = some r from h); done)
  rename_i x v
  obtain ⟨l, hl, h3⟩ := Option.bind_eq_some_iff.1 h
  obtain ⟨c, h2, h4⟩ := Option.bind_eq_some_iff.1 h3
  have e := mapM_eq (fun _ _ => i64Of_eq) h2
  clear h h3
  subst e
  split at h4
  case isFalse => cases h4
  rename_i hlen
  cases h4
  refine ⟨_, (SeesL.cons (lOf_sees hl) .same).args, by simp, ?_⟩
  simp only [go_sem, seval, eq_self, reduceCtorEq, List.length_map]
  repeat' ((first | (refine AG_of ?_ ?_ <;> intro h) | (refine AB_of ?_ ?_ <;> intro h) | (refine A_draw_of [] [] (by kernel_rfl) ?_ <;> have h := mark)) <;> simp only [go_sem, seval, eq_self, reduceCtorEq, List.length_map, h])
  refine A_loop (indexII v c) (fun s => c.length - (numOf (s.env 8)).toNat) ?_ ?_
  · refine ⟨by simp [upd, init, V.unfr], by simp [upd, init, V.unfr], by simp [upd], 0, by simp [upd], by omega, rfl⟩
  intro s hs
  obtain ⟨e0, e1, e7, k, ek, hk, hfi⟩ := hs
  rcases Nat.lt_or_ge k c.length with hlt | hge
  · obtain ⟨a, q⟩ : ∃ i, c[k]? = some i := ⟨c[k], List.getElem?_eq_getElem hlt⟩
    have g0 : decide ((k : Int) < c.length) = true := by simp; omega
    have z0 := Int.natCast_nonneg k
    have n2 : IntKind.i64.wrap ((k : Int) + 1) = (k + 1 : Nat) := by rw [w_i64 (by omega) (by omega)]; omega
    have hsw := beq_swap v a
    have hd : c.drop k = a :: c.drop (k + 1) := by
      rw [List.drop_eq_getElem_cons hlt]
      rw [List.getElem?_eq_getElem hlt, Option.some.injEq] at q
      rw [q]
    rw [hd, idxL] at hfi
    cases hb : (a == v)
    · rw [hb] at hfi hsw
      simp only [Bool.false_eq_true, if_false] at hfi
      simp only [go_sem, seval, eq_self, reduceCtorEq, e0, e1, e7, ek, q, g0, z0, n2, hb, hsw, iv, Int.toNat_natCast, List.getElem?_map, List.length_map]
      repeat' ((first | (refine AG_of ?_ ?_ <;> intro h) | (refine AB_of ?_ ?_ <;> intro h) | (refine A_draw_of [] [] (by kernel_rfl) ?_ <;> have h := mark)) <;> simp only [go_sem, seval, eq_self, reduceCtorEq, e0, e1, e7, ek, q, g0, z0, n2, hb, hsw, iv, Int.toNat_natCast, List.getElem?_map, List.length_map, h])
      exact ⟨⟨by simp [upd, e0], by simp [upd, e1], by simp [upd, e7], k + 1, by simp [upd], by omega, hfi⟩, by simp [upd, numOf, ek]; omega⟩
    · rw [hb] at hfi hsw
      simp only [if_true] at hfi
      rw [hfi]
      simp only [go_sem, seval, eq_self, reduceCtorEq, e0, e1, e7, ek, q, g0, z0, n2, hb, hsw, iv, Int.toNat_natCast, List.getElem?_map, List.length_map]
      repeat' ((first | (refine AG_of ?_ ?_ <;> intro h) | (refine AB_of ?_ ?_ <;> intro h) | (refine A_draw_of [] [] (by kernel_rfl) ?_ <;> have h := mark)) <;> simp only [go_sem, seval, eq_self, reduceCtorEq, e0, e1, e7, ek, q, g0, z0, n2, hb, hsw, iv, Int.toNat_natCast, List.getElem?_map, List.length_map, h])
      all_goals (first | refine fin_ret ?_ | refine fin_normal ?_)
      all_goals simp only [resOf, Tryz.results69, Tryz.ntmps69, go_sem, seval, eq_self, reduceCtorEq]
  · have hkl : k = c.length := by omega
    have g0 : decide ((k : Int) < c.length) = false := by simp; omega
    rw [hkl, List.drop_length, idxL] at hfi
    rw [hfi]
    simp only [go_sem, seval, eq_self, reduceCtorEq, e0, e1, e7, ek, g0, List.length_map]
    repeat' ((first | (refine AG_of ?_ ?_ <;> intro h) | (refine AB_of ?_ ?_ <;> intro h) | (refine A_draw_of [] [] (by kernel_rfl) ?_ <;> have h := mark)) <;> simp only [go_sem, seval, eq_self, reduceCtorEq, e0, e1, e7, ek, g0, List.length_map, h])
    all_goals (first | refine fin_ret ?_ | refine fin_normal ?_)
    all_goals simp only [resOf, Tryz.results69, Tryz.ntmps69, go_sem, seval, eq_self, reduceCtorEq]

def findI (v : Int) (c : List Int) (s : S) : Prop := s.env 0 = .lst false 1 (c.map iv) ∧ s.env 1 = .s (.int .i64 v) ∧ ∃ k : Nat, s.env 5 = .s (.int .i64 k) ∧ k ≤ c.length ∧ idxL v c 0 = idxL v (c.drop k) k
set_option maxHeartbeats 1000000 in
theorem find_impl : Impl Tryz.prog 46 spIndexI := by
  refine impl_walk2 mixed orc0_ok eqT_ok Tryz.func46 rfl Tryz.ntmps46 (by kernel_rfl) ?_
  intro xs r h
  unfold spIndexI at h
  simp only at h
  (try split at h) <;> try (cases (show none = some r from h); done)
  rename_i x v
  obtain ⟨l, hl, h3⟩ := Option.bind_eq_some_iff.1 h
  obtain ⟨c, h2, h4⟩ := Option.bind_eq_some_iff.1 h3
  have e := mapM_eq (fun _ _ => i64Of_eq) h2
  clear h h3
  subst e
  split at h4
  case isFalse => cases h4
  rename_i hlen
  cases h4
  refine ⟨_, (SeesL.cons (lOf_sees hl) .same).args, by simp, ?_⟩
  simp only [go_sem, seval, eq_self, reduceCtorEq, List.length_map]
  repeat' ((first | (refine AG_of ?_ ?_ <;> intro h) | (refine AB_of ?_ ?_ <;> intro h) | (refine A_draw_of [] [] (by kernel_rfl) ?_ <;> have h := mark)) <;> simp only [go_sem, seval, eq_self, reduceCtorEq, List.length_map, h])
  refine A_loop (findI v c) (fun s => c.length - (numOf (s.env 5)).toNat) ?_ ?_
  · refine ⟨by simp [upd, init, V.unfr], by simp [upd, init, V.unfr], 0, by simp [upd], by omega, rfl⟩
  intro s hs
  obtain ⟨e0, e1, k, ek, hk, hfi⟩ := hs
  rcases Nat.lt_or_ge k c.length with hlt | hge
  · obtain ⟨a, q⟩ : ∃ i, c[k]? = some i := ⟨c[k], List.getElem?_eq_getElem hlt⟩
    have g0 : decide ((k : Int) < c.length) = true := by simp; omega
    have z0 := Int.natCast_nonneg k
    have n2 : IntKind.i64.wrap ((k : Int) + 1) = (k + 1 : Nat) := by rw [w_i64 (by omega) (by omega)]; omega
    have hd : c.drop k = a :: c.drop (k + 1) := by
      rw [List.drop_eq_getElem_cons hlt]
      rw [List.getElem?_eq_getElem hlt, Option.some.injEq] at q
      rw [q]
    rw [hd, idxL] at hfi
    cases hb : (a == v)
    · rw [hb] at hfi
      simp only [Bool.false_eq_true, if_false] at hfi
      simp only [go_sem, seval, eq_self, reduceCtorEq, e0, e1, ek, q, g0, z0, n2, hb, iv, Int.toNat_natCast, List.getElem?_map, List.length_map]
      repeat' ((first | (refine AG_of ?_ ?_ <;> intro h) | (refine AB_of ?_ ?_ <;> intro h) | (refine A_draw_of [] [] (by kernel_rfl) ?_ <;> have h := mark)) <;> simp only [go_sem, seval, eq_self, reduceCtorEq, e0, e1, ek, q, g0, z0, n2, hb, iv, Int.toNat_natCast, List.getElem?_map, List.length_map, h])
      exact ⟨⟨by simp [upd, e0], by simp [upd, e1], k + 1, by simp [upd], by omega, hfi⟩, by simp [upd, numOf, ek]; omega⟩
    · rw [hb] at hfi
      simp only [if_true] at hfi
      rw [hfi]
      simp only [go_sem, seval, eq_self, reduceCtorEq, e0, e1, ek, q, g0, z0, n2, hb, iv, Int.toNat_natCast, List.getElem?_map, List.length_map]
      repeat' ((first | (refine AG_of ?_ ?_ <;> intro h) | (refine AB_of ?_ ?_ <;> intro h) | (refine A_draw_of [] [] (by kernel_rfl) ?_ <;> have h := mark)) <;> simp only [go_sem, seval, eq_self, reduceCtorEq, e0, e1, ek, q, g0, z0, n2, hb, iv, Int.toNat_natCast, List.getElem?_map, List.length_map, h])
      all_goals (first | refine fin_ret ?_ | refine fin_normal ?_)
      all_goals simp only [resOf, Tryz.results46, Tryz.ntmps46, go_sem, seval, eq_self, reduceCtorEq]
  · have hkl : k = c.length := by omega
    have g0 : decide ((k : Int) < c.length) = false := by simp; omega
    rw [hkl, List.drop_length, idxL] at hfi
    rw [hfi]
    simp only [go_sem, seval, eq_self, reduceCtorEq, e0, e1, ek, g0, List.length_map]
    repeat' ((first | (refine AG_of ?_ ?_ <;> intro h) | (refine AB_of ?_ ?_ <;> intro h) | (refine A_draw_of [] [] (by kernel_rfl) ?_ <;> have h := mark)) <;> simp only [go_sem, seval, eq_self, reduceCtorEq, e0, e1, ek, g0, List.length_map, h])
    all_goals (first | refine fin_ret ?_ | refine fin_normal ?_)
    all_goals simp only [resOf, Tryz.results46, Tryz.ntmps46, go_sem, seval, eq_self, reduceCtorEq]

theorem spIndexI_v {c : List Int} (hc : c.length ≤ 1000000000) (v : Int) (k : Bool) : spIndexI.fn [.lst k 1 (c.map iv), .s (.int .i64 v)] = some (.s (.int .i64 (idxL v c 0))) := by
  have h1 : lOf 1 (.lst k 1 (c.map iv)) = some (c.map iv) := rfl
  simp only [spIndexI, h1, Option.bind_some, mapM_of i64Of_v, if_pos hc]

end Go.Proofs.YtkfmecmmbnehjaaGreat
