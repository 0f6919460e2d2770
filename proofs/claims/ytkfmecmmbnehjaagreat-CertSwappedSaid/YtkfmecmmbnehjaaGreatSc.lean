/-
When two splits are the same: slices.Equal and EqualFunc, split.same, split.Same and the reference's by the plain reckoning. No condition.
-/
import Derived.Test.YtkfmecmmbnehjaaGreatSa
import Derived.Test.YtkfmecmmbnehjaaGreatO8
namespace Go.Proofs.YtkfmecmmbnehjaaGreat
set_option linter.unusedSimpArgs false
set_option linter.unusedVariables false

def eqCI (a b : List Cell) (s : S) : Prop := s.env 0 = .lst false 9 (a.map Cell.v) ∧ s.env 1 = .lst false 9 (b.map Cell.v) ∧ s.env 12 = .s (.int .i64 a.length) ∧ ∃ k : Nat, s.env 13 = .s (.int .i64 k) ∧ k ≤ a.length ∧ a.take k = b.take k
set_option maxHeartbeats 2000000 in
theorem eqC_impl : Impl Tryz.prog 90 spSameC := by
  refine impl_walk2 mixed orc0_ok eqT_ok Tryz.func90 rfl Tryz.ntmps90 (by kernel_rfl) ?_
  intro xs r h
  unfold spSameC at h
  simp only at h
  (try split at h) <;> try (cases (show none = some r from h); done)
  rename_i x y
  obtain ⟨l, hl, h3⟩ := Option.bind_eq_some_iff.1 h
  obtain ⟨a, ha, h4⟩ := Option.bind_eq_some_iff.1 h3
  obtain ⟨m, hm, h5⟩ := Option.bind_eq_some_iff.1 h4
  obtain ⟨b, hb, h6⟩ := Option.bind_eq_some_iff.1 h5
  clear h h3 h4 h5
  have e1 := mapM_eq (fun _ _ => cellOf_eq) ha
  have e2 := mapM_eq (fun _ _ => cellOf_eq) hb
  subst e1
  subst e2
  split at h6
  case isFalse => cases h6
  rename_i hh
  obtain ⟨hla, hlb⟩ := hh
  cases h6
  refine ⟨_, (SeesL.cons (lOf_sees hl) (.cons (lOf_sees hm) .nil)).args, by simp, ?_⟩
  by_cases hab : a.length = b.length
  case neg =>
    have g0 : ((a.length : Int) != (b.length : Int)) = true := by simp; omega
    have e : decide (a = b) = false := by simp; rintro rfl; exact hab rfl
    rw [e]
    simp only [go_sem, seval, eq_self, reduceCtorEq, g0, List.length_map]
    repeat' ((first | (refine AG_of ?_ ?_ <;> intro h) | (refine AB_of ?_ ?_ <;> intro h) | (refine A_draw_of [] [] (by kernel_rfl) ?_ <;> have h := mark)) <;> simp only [go_sem, seval, eq_self, reduceCtorEq, g0, List.length_map, h])
    all_goals (first | refine fin_ret ?_ | refine fin_normal ?_)
    all_goals simp only [resOf, Tryz.results90, Tryz.ntmps90, go_sem, seval, eq_self, reduceCtorEq]
  have g0 : ((a.length : Int) != (b.length : Int)) = false := by simp [hab]
  simp only [go_sem, seval, eq_self, reduceCtorEq, g0, List.length_map]
  repeat' ((first | (refine AG_of ?_ ?_ <;> intro h) | (refine AB_of ?_ ?_ <;> intro h) | (refine A_draw_of [] [] (by kernel_rfl) ?_ <;> have h := mark)) <;> simp only [go_sem, seval, eq_self, reduceCtorEq, g0, List.length_map, h])
  refine A_loop (eqCI a b) (fun s => a.length - (numOf (s.env 13)).toNat) ?_ ?_
  · refine ⟨by simp [upd, init, V.unfr], by simp [upd, init, V.unfr], by simp [upd], 0, by simp [upd], by omega, by simp⟩
  intro s hs
  obtain ⟨e0, e1, e12, k, ek, hk, htk⟩ := hs
  rcases Nat.lt_or_ge k a.length with hlt | hge
  · obtain ⟨u, q⟩ : ∃ i, a[k]? = some i := ⟨a[k], List.getElem?_eq_getElem hlt⟩
    obtain ⟨v, q'⟩ : ∃ i, b[k]? = some i := ⟨b[k]'(by omega), List.getElem?_eq_getElem (by omega)⟩
    have f0 : decide ((k : Int) < a.length) = true := by simp; omega
    have z0 := Int.natCast_nonneg k
    have n2 : IntKind.i64.wrap ((k : Int) + 1) = (k + 1 : Nat) := by rw [w_i64 (by omega) (by omega)]; omega
    have hc := cell_beq u v
    cases hq : decide (u = v)
    · rw [hq] at hc
      have e : decide (a = b) = false := by
        simp only [decide_eq_false_iff_not] at hq ⊢
        rintro rfl
        rw [q] at q'
        exact hq (Option.some.inj q')
      rw [e]
      simp only [go_sem, seval, eq_self, reduceCtorEq, e0, e1, e12, ek, q, q', f0, z0, n2, hc, Cell.v, Int.toNat_natCast, List.getElem?_map, List.length_map]
      repeat' ((first | (refine AG_of ?_ ?_ <;> intro h) | (refine AB_of ?_ ?_ <;> intro h) | (refine A_draw_of [] [] (by kernel_rfl) ?_ <;> have h := mark)) <;> simp only [go_sem, seval, eq_self, reduceCtorEq, e0, e1, e12, ek, q, q', f0, z0, n2, hc, Cell.v, Int.toNat_natCast, List.getElem?_map, List.length_map, h])
      all_goals (first | refine fin_ret ?_ | refine fin_normal ?_)
      all_goals simp only [resOf, Tryz.results90, Tryz.ntmps90, go_sem, seval, eq_self, reduceCtorEq]
    · rw [hq] at hc
      simp only [go_sem, seval, eq_self, reduceCtorEq, e0, e1, e12, ek, q, q', f0, z0, n2, hc, Cell.v, Int.toNat_natCast, List.getElem?_map, List.length_map]
      repeat' ((first | (refine AG_of ?_ ?_ <;> intro h) | (refine AB_of ?_ ?_ <;> intro h) | (refine A_draw_of [] [] (by kernel_rfl) ?_ <;> have h := mark)) <;> simp only [go_sem, seval, eq_self, reduceCtorEq, e0, e1, e12, ek, q, q', f0, z0, n2, hc, Cell.v, Int.toNat_natCast, List.getElem?_map, List.length_map, h])
      exact ⟨⟨by simp [upd, e0, Cell.v], by simp [upd, e1, Cell.v], by simp [upd, e12], k + 1, by simp [upd], by omega, take_eq_get htk q q' (of_decide_eq_true hq)⟩, by simp [upd, numOf, ek]; omega⟩
  · have hkl : k = a.length := by omega
    have f0 : decide ((k : Int) < a.length) = false := by simp; omega
    rw [hkl, List.take_length, hab, List.take_length] at htk
    have e : decide (a = b) = true := by simp [htk]
    rw [e]
    simp only [go_sem, seval, eq_self, reduceCtorEq, e0, e1, e12, ek, f0, List.length_map]
    repeat' ((first | (refine AG_of ?_ ?_ <;> intro h) | (refine AB_of ?_ ?_ <;> intro h) | (refine A_draw_of [] [] (by kernel_rfl) ?_ <;> have h := mark)) <;> simp only [go_sem, seval, eq_self, reduceCtorEq, e0, e1, e12, ek, f0, List.length_map, h])
    all_goals (first | refine fin_ret ?_ | refine fin_normal ?_)
    all_goals simp only [resOf, Tryz.results90, Tryz.ntmps90, go_sem, seval, eq_self, reduceCtorEq]

def sbFit (b : SB) : Bool := decide (b.a.length ≤ 9223372036854775807) && decide (b.e.length ≤ 9223372036854775807)
theorem sbFit_iff {b : SB} (h : sbFit b = true) : b.a.length ≤ 9223372036854775807 ∧ b.e.length ≤ 9223372036854775807 := by
  unfold sbFit at h
  simp only [Bool.and_eq_true, decide_eq_true_eq] at h
  exact h
def spSameB : Spec := ⟨[], fun xs => match xs with
  | [x, y] => (sbOf x).bind fun a => (sbOf y).bind fun b => if sbFit a = true ∧ sbFit b = true then some (.s (.bool (decide (a = b)))) else none
  | _ => none⟩
theorem spSameB_mv : spSameB.mv = [] := rfl
theorem spSameB_v {a b : SB} (ha : sbFit a = true) (hb : sbFit b = true) : spSameB.fn [a.v, b.v] = some (.s (.bool (decide (a = b)))) := by
  simp only [spSameB, sbOf_v, Option.bind_some]
  rw [if_pos ⟨ha, hb⟩]
def cS1 : Orc := upd (upd orc0 90 (some spSameC)) 53 (some spSameC)
theorem cS1_ok : ∀ g sp, cS1 g = some sp → Impl Tryz.prog g sp := orc_upd (orc_upd orc0_ok eqC_impl) sameC_impl
theorem cS1_at : cS1 90 = some spSameC ∧ cS1 53 = some spSameC := ⟨rfl, rfl⟩
set_option maxHeartbeats 4000000 in
theorem sameB_impl : Impl Tryz.prog 52 spSameB := by
  refine impl_walk2 mixed cS1_ok eqT_ok Tryz.func52 rfl Tryz.ntmps52 (by kernel_rfl) ?_
  intro xs r h
  unfold spSameB at h
  simp only at h
  (try split at h) <;> try (cases (show none = some r from h); done)
  rename_i x y
  obtain ⟨u, hu, h3⟩ := Option.bind_eq_some_iff.1 h
  obtain ⟨v, hv, h4⟩ := Option.bind_eq_some_iff.1 h3
  clear h h3
  split at h4
  case isFalse => cases h4
  rename_i hh
  obtain ⟨hfu, hfv⟩ := hh
  cases h4
  obtain ⟨fa, fe⟩ := sbFit_iff hfu
  obtain ⟨ga, ge⟩ := sbFit_iff hfv
  refine ⟨_, (SeesL.cons (sbOf_sees hu) (.cons (sbOf_sees hv) .nil)).args, by simp [SB.v], ?_⟩
  have hA := spSameC_v fa ga false false
  have hE := spSameC_v fe ge false false
  clear hu hv
  obtain ⟨f1, t1, n1, k1, a1, e1⟩ := u
  obtain ⟨f2, t2, n2, k2, a2, e2⟩ := v
  simp only at hA hE fa fe ga ge
  cases b1 : (f1 == f2)
  case false =>
    rw [show decide ((⟨f1, t1, n1, k1, a1, e1⟩ : SB) = ⟨f2, t2, n2, k2, a2, e2⟩) = false by simp only [decide_eq_false_iff_not]; intro h; rw [sb_ext] at h; simp only at h; rw [h.1] at b1; simp at b1]
    simp only [go_sem, seval, eq_self, reduceCtorEq, b1, SB.v]
    repeat' ((first | (refine AG_of ?_ ?_ <;> intro h) | (refine AB_of ?_ ?_ <;> intro h) | (refine A_draw_of [] [] (by kernel_rfl) ?_ <;> have h := mark)) <;> simp only [go_sem, seval, eq_self, reduceCtorEq, b1, SB.v, h])
    all_goals (first | refine fin_ret ?_ | refine fin_normal ?_)
    all_goals simp only [resOf, Tryz.results52, Tryz.ntmps52, go_sem, seval, eq_self, reduceCtorEq]
  cases b2 : (t1 == t2)
  case false =>
    rw [show decide ((⟨f1, t1, n1, k1, a1, e1⟩ : SB) = ⟨f2, t2, n2, k2, a2, e2⟩) = false by simp only [decide_eq_false_iff_not]; intro h; rw [sb_ext] at h; simp only at h; rw [h.2.1] at b2; simp at b2]
    simp only [go_sem, seval, eq_self, reduceCtorEq, b1, b2, SB.v]
    repeat' ((first | (refine AG_of ?_ ?_ <;> intro h) | (refine AB_of ?_ ?_ <;> intro h) | (refine A_draw_of [] [] (by kernel_rfl) ?_ <;> have h := mark)) <;> simp only [go_sem, seval, eq_self, reduceCtorEq, b1, b2, SB.v, h])
    all_goals (first | refine fin_ret ?_ | refine fin_normal ?_)
    all_goals simp only [resOf, Tryz.results52, Tryz.ntmps52, go_sem, seval, eq_self, reduceCtorEq]
  cases b3 : (n1 == n2)
  case false =>
    rw [show decide ((⟨f1, t1, n1, k1, a1, e1⟩ : SB) = ⟨f2, t2, n2, k2, a2, e2⟩) = false by simp only [decide_eq_false_iff_not]; intro h; rw [sb_ext] at h; simp only at h; rw [h.2.2.1] at b3; simp at b3]
    simp only [go_sem, seval, eq_self, reduceCtorEq, b1, b2, b3, SB.v]
    repeat' ((first | (refine AG_of ?_ ?_ <;> intro h) | (refine AB_of ?_ ?_ <;> intro h) | (refine A_draw_of [] [] (by kernel_rfl) ?_ <;> have h := mark)) <;> simp only [go_sem, seval, eq_self, reduceCtorEq, b1, b2, b3, SB.v, h])
    all_goals (first | refine fin_ret ?_ | refine fin_normal ?_)
    all_goals simp only [resOf, Tryz.results52, Tryz.ntmps52, go_sem, seval, eq_self, reduceCtorEq]
  cases b4 : (k1 == k2)
  case false =>
    rw [show decide ((⟨f1, t1, n1, k1, a1, e1⟩ : SB) = ⟨f2, t2, n2, k2, a2, e2⟩) = false by simp only [decide_eq_false_iff_not]; intro h; rw [sb_ext] at h; simp only at h; rw [h.2.2.2.1] at b4; simp at b4]
    simp only [go_sem, seval, eq_self, reduceCtorEq, b1, b2, b3, b4, SB.v]
    repeat' ((first | (refine AG_of ?_ ?_ <;> intro h) | (refine AB_of ?_ ?_ <;> intro h) | (refine A_draw_of [] [] (by kernel_rfl) ?_ <;> have h := mark)) <;> simp only [go_sem, seval, eq_self, reduceCtorEq, b1, b2, b3, b4, SB.v, h])
    all_goals (first | refine fin_ret ?_ | refine fin_normal ?_)
    all_goals simp only [resOf, Tryz.results52, Tryz.ntmps52, go_sem, seval, eq_self, reduceCtorEq]
  cases b5 : decide (a1 = a2)
  case false =>
    rw [b5] at hA
    rw [show decide ((⟨f1, t1, n1, k1, a1, e1⟩ : SB) = ⟨f2, t2, n2, k2, a2, e2⟩) = false by simp only [decide_eq_false_iff_not]; intro h; rw [sb_ext] at h; simp only at h; rw [h.2.2.2.2.1] at b5; simp at b5]
    simp only [go_sem, seval, eq_self, reduceCtorEq, b1, b2, b3, b4, SB.v, cS1_at, spSameC_mv, hA]
    repeat' ((first | (refine AG_of ?_ ?_ <;> intro h) | (refine AB_of ?_ ?_ <;> intro h) | (refine A_draw_of [] [] (by kernel_rfl) ?_ <;> have h := mark)) <;> simp only [go_sem, seval, eq_self, reduceCtorEq, b1, b2, b3, b4, SB.v, cS1_at, spSameC_mv, hA, h])
    all_goals (first | refine fin_ret ?_ | refine fin_normal ?_)
    all_goals simp only [resOf, Tryz.results52, Tryz.ntmps52, go_sem, seval, eq_self, reduceCtorEq]
  rw [b5] at hA
  have hd : decide ((⟨f1, t1, n1, k1, a1, e1⟩ : SB) = ⟨f2, t2, n2, k2, a2, e2⟩) = decide (e1 = e2) := by
    simp only [beq_iff_eq] at b1 b2 b3 b4
    rw [decide_eq_decide, sb_ext]
    simp [b1, b2, b3, b4, of_decide_eq_true b5]
  rw [hd]
  simp only [go_sem, seval, eq_self, reduceCtorEq, b1, b2, b3, b4, SB.v, cS1_at, spSameC_mv, hA, hE]
  repeat' ((first | (refine AG_of ?_ ?_ <;> intro h) | (refine AB_of ?_ ?_ <;> intro h) | (refine A_draw_of [] [] (by kernel_rfl) ?_ <;> have h := mark)) <;> simp only [go_sem, seval, eq_self, reduceCtorEq, b1, b2, b3, b4, SB.v, cS1_at, spSameC_mv, hA, hE, h])
  all_goals (first | refine fin_ret ?_ | refine fin_normal ?_)
  all_goals simp only [resOf, Tryz.results52, Tryz.ntmps52, go_sem, seval, eq_self, reduceCtorEq]

def sbsFit (l : List SB) : Bool := decide (l.length ≤ 9223372036854775807) && l.all sbFit
theorem sbsFit_iff {l : List SB} (h : sbsFit l = true) : l.length ≤ 9223372036854775807 ∧ ∀ b ∈ l, sbFit b = true := by
  unfold sbsFit at h
  simp only [Bool.and_eq_true, decide_eq_true_eq, List.all_eq_true] at h
  exact h
def spEqF : Spec := ⟨[], fun xs => match xs with
  | [x, y, .fn 52 []] => (sbsOf x).bind fun a => (sbsOf y).bind fun b => if sbsFit a = true ∧ sbsFit b = true then some (.s (.bool (decide (a = b)))) else none
  | _ => none⟩
theorem spEqF_mv : spEqF.mv = [] := rfl
theorem spEqF_v {a b : List SB} (ha : sbsFit a = true) (hb : sbsFit b = true) (k k' : Bool) : spEqF.fn [.lst k 6 (a.map SB.v), .lst k' 6 (b.map SB.v), .fn 52 []] = some (.s (.bool (decide (a = b)))) := by
  simp only [spEqF, sbsOf_v, Option.bind_some]
  rw [if_pos ⟨ha, hb⟩]
def cS2 : Orc := upd cS1 52 (some spSameB)
theorem cS2_ok : ∀ g sp, cS2 g = some sp → Impl Tryz.prog g sp := orc_upd cS1_ok sameB_impl
theorem cS2_at : cS2 52 = some spSameB ∧ cS2 53 = some spSameC := ⟨rfl, rfl⟩
def eqFI (a b : List SB) (s : S) : Prop := s.env 1 = .lst false 6 (b.map SB.v) ∧ s.env 2 = .fn 52 [] ∧ s.env 15 = .lst false 6 (a.map SB.v) ∧ s.env 16 = .s (.int .i64 a.length) ∧ ∃ k : Nat, s.env 17 = .s (.int .i64 k) ∧ k ≤ a.length ∧ a.take k = b.take k
set_option maxHeartbeats 2000000 in
theorem eqF_impl : Impl Tryz.prog 51 spEqF := by
  refine impl_walk2 mixed cS2_ok eqT_ok Tryz.func51 rfl Tryz.ntmps51 (by kernel_rfl) ?_
  intro xs r h
  unfold spEqF at h
  simp only at h
  (try split at h) <;> try (cases (show none = some r from h); done)
  rename_i x y
  obtain ⟨a, hl, h3⟩ := Option.bind_eq_some_iff.1 h
  obtain ⟨b, hm, h6⟩ := Option.bind_eq_some_iff.1 h3
  clear h h3
  split at h6
  case isFalse => cases h6
  rename_i hh
  obtain ⟨hfa, hfb⟩ := hh
  obtain ⟨hla, hfa⟩ := sbsFit_iff hfa
  obtain ⟨hlb, hfb⟩ := sbsFit_iff hfb
  cases h6
  refine ⟨_, (SeesL.cons (sbsOf_sees hl) (.cons (sbsOf_sees hm) .same)).args, by simp, ?_⟩
  by_cases hab : a.length = b.length
  case neg =>
    have g0 : ((a.length : Int) != (b.length : Int)) = true := by simp; omega
    have e : decide (a = b) = false := by simp; rintro rfl; exact hab rfl
    rw [e]
    simp only [go_sem, seval, eq_self, reduceCtorEq, g0, List.length_map]
    repeat' ((first | (refine AG_of ?_ ?_ <;> intro h) | (refine AB_of ?_ ?_ <;> intro h) | (refine A_draw_of [] [] (by kernel_rfl) ?_ <;> have h := mark)) <;> simp only [go_sem, seval, eq_self, reduceCtorEq, g0, List.length_map, h])
    all_goals (first | refine fin_ret ?_ | refine fin_normal ?_)
    all_goals simp only [resOf, Tryz.results51, Tryz.ntmps51, go_sem, seval, eq_self, reduceCtorEq]
  have g0 : ((a.length : Int) != (b.length : Int)) = false := by simp [hab]
  simp only [go_sem, seval, eq_self, reduceCtorEq, g0, List.length_map]
  repeat' ((first | (refine AG_of ?_ ?_ <;> intro h) | (refine AB_of ?_ ?_ <;> intro h) | (refine A_draw_of [] [] (by kernel_rfl) ?_ <;> have h := mark)) <;> simp only [go_sem, seval, eq_self, reduceCtorEq, g0, List.length_map, h])
  refine A_loop (eqFI a b) (fun s => a.length - (numOf (s.env 17)).toNat) ?_ ?_
  · refine ⟨by simp [upd, init, V.unfr], by simp [upd, init, V.unfr, V.unfrL], by simp [upd, init, V.unfr], by simp [upd], 0, by simp [upd], by omega, by simp⟩
  intro s hs
  obtain ⟨e1, e2, e15, e16, k, ek, hk, htk⟩ := hs
  rcases Nat.lt_or_ge k a.length with hlt | hge
  · obtain ⟨u, q⟩ : ∃ i, a[k]? = some i := ⟨a[k], List.getElem?_eq_getElem hlt⟩
    obtain ⟨v, q'⟩ : ∃ i, b[k]? = some i := ⟨b[k]'(by omega), List.getElem?_eq_getElem (by omega)⟩
    have f0 : decide ((k : Int) < a.length) = true := by simp; omega
    have z0 := Int.natCast_nonneg k
    have n2 : IntKind.i64.wrap ((k : Int) + 1) = (k + 1 : Nat) := by rw [w_i64 (by omega) (by omega)]; omega
    have hc := spSameB_v (hfa u (List.mem_of_getElem? q)) (hfb v (List.mem_of_getElem? q'))
    simp only [SB.v] at hc
    cases hq : decide (u = v)
    · rw [hq] at hc
      have e : decide (a = b) = false := by
        simp only [decide_eq_false_iff_not] at hq ⊢
        rintro rfl
        rw [q] at q'
        exact hq (Option.some.inj q')
      rw [e]
      simp only [go_sem, seval, eq_self, reduceCtorEq, e1, e2, e15, e16, ek, q, q', f0, z0, n2, hc, cS2_at, spSameB_mv, SB.v, Int.toNat_natCast, List.getElem?_map, List.length_map]
      repeat' ((first | (refine AG_of ?_ ?_ <;> intro h) | (refine AB_of ?_ ?_ <;> intro h) | (refine A_draw_of [] [] (by kernel_rfl) ?_ <;> have h := mark)) <;> simp only [go_sem, seval, eq_self, reduceCtorEq, e1, e2, e15, e16, ek, q, q', f0, z0, n2, hc, cS2_at, spSameB_mv, SB.v, Int.toNat_natCast, List.getElem?_map, List.length_map, h])
      all_goals (first | refine fin_ret ?_ | refine fin_normal ?_)
      all_goals simp only [resOf, Tryz.results51, Tryz.ntmps51, go_sem, seval, eq_self, reduceCtorEq]
    · rw [hq] at hc
      simp only [go_sem, seval, eq_self, reduceCtorEq, e1, e2, e15, e16, ek, q, q', f0, z0, n2, hc, cS2_at, spSameB_mv, SB.v, Int.toNat_natCast, List.getElem?_map, List.length_map]
      repeat' ((first | (refine AG_of ?_ ?_ <;> intro h) | (refine AB_of ?_ ?_ <;> intro h) | (refine A_draw_of [] [] (by kernel_rfl) ?_ <;> have h := mark)) <;> simp only [go_sem, seval, eq_self, reduceCtorEq, e1, e2, e15, e16, ek, q, q', f0, z0, n2, hc, cS2_at, spSameB_mv, SB.v, Int.toNat_natCast, List.getElem?_map, List.length_map, h])
      exact ⟨⟨by simp [upd, e1, SB.v], by simp [upd, e2], by simp [upd, e15, SB.v], by simp [upd, e16], k + 1, by simp [upd], by omega, take_eq_get htk q q' (of_decide_eq_true hq)⟩, by simp [upd, numOf, ek]; omega⟩
  · have hkl : k = a.length := by omega
    have f0 : decide ((k : Int) < a.length) = false := by simp; omega
    rw [hkl, List.take_length, hab, List.take_length] at htk
    have e : decide (a = b) = true := by simp [htk]
    rw [e]
    simp only [go_sem, seval, eq_self, reduceCtorEq, e1, e2, e15, e16, ek, f0, List.length_map]
    repeat' ((first | (refine AG_of ?_ ?_ <;> intro h) | (refine AB_of ?_ ?_ <;> intro h) | (refine A_draw_of [] [] (by kernel_rfl) ?_ <;> have h := mark)) <;> simp only [go_sem, seval, eq_self, reduceCtorEq, e1, e2, e15, e16, ek, f0, List.length_map, h])
    all_goals (first | refine fin_ret ?_ | refine fin_normal ?_)
    all_goals simp only [resOf, Tryz.results51, Tryz.ntmps51, go_sem, seval, eq_self, reduceCtorEq]

theorem spl_ext (x y : Spl) : x = y ↔ (x.o = y.o ∧ x.bl = y.bl) := by
  constructor
  · rintro rfl; simp
  · obtain ⟨a, b⟩ := x
    obtain ⟨a', b'⟩ := y
    rintro ⟨h1, h2⟩
    simp only at *
    subst h1; subst h2
    rfl
instance : DecidableEq Spl := fun x y => decidable_of_iff _ (spl_ext x y).symm
def spSameS : Spec := ⟨[], fun xs => match xs with
  | [x, y] => (splOf x).bind fun a => (splOf y).bind fun b => if sbsFit a.bl = true ∧ sbsFit b.bl = true then some (.s (.bool (decide (a = b)))) else none
  | _ => none⟩
theorem spSameS_mv : spSameS.mv = [] := rfl
def cS3 : Orc := upd cS2 51 (some spEqF)
theorem cS3_ok : ∀ g sp, cS3 g = some sp → Impl Tryz.prog g sp := orc_upd cS2_ok eqF_impl
theorem cS3_at : cS3 51 = some spEqF := rfl
theorem cS3_c : cS3 53 = some spSameC := rfl
set_option maxHeartbeats 2000000 in
theorem sameS_impl : Impl Tryz.prog 32 spSameS := by
  refine impl_walk2 mixed cS3_ok eqT_ok Tryz.func32 rfl Tryz.ntmps32 (by kernel_rfl) ?_
  intro xs r h
  unfold spSameS at h
  simp only at h
  (try split at h) <;> try (cases (show none = some r from h); done)
  rename_i x y
  obtain ⟨a, hu, h3⟩ := Option.bind_eq_some_iff.1 h
  obtain ⟨b, hv, h4⟩ := Option.bind_eq_some_iff.1 h3
  clear h h3
  split at h4
  case isFalse => cases h4
  rename_i hh
  obtain ⟨hfa, hfb⟩ := hh
  cases h4
  obtain ⟨sa, oa⟩ := splOf_sees hu
  obtain ⟨sb, ob⟩ := splOf_sees hv
  refine ⟨_, (SeesL.cons sa (.cons sb .nil)).args, by simp [Spl.v], ?_⟩
  have hF := spEqF_v hfa hfb false false
  have hq := eqInts_iv (a := a.o) (b := b.o) (by omega)
  have ta := take_iv oa
  have tb := take_iv ob
  have hd : decide (a = b) = (a.o == b.o && decide (a.bl = b.bl)) := by
    rw [Bool.eq_iff_iff]
    simp only [Bool.and_eq_true, decide_eq_true_eq, beq_iff_eq]
    exact spl_ext a b
  rw [hd]
  cases b1 : (a.o == b.o)
  · rw [b1] at hq
    simp only [go_sem, seval, eq_self, reduceCtorEq, hq, ta, tb, oa, ob, Spl.v, List.length_map]
    repeat' ((first | (refine AG_of ?_ ?_ <;> intro h) | (refine AB_of ?_ ?_ <;> intro h) | (refine A_draw_of [] [] (by kernel_rfl) ?_ <;> have h := mark)) <;> simp only [go_sem, seval, eq_self, reduceCtorEq, hq, ta, tb, oa, ob, Spl.v, List.length_map, h])
    all_goals (first | refine fin_ret ?_ | refine fin_normal ?_)
    all_goals simp only [resOf, Tryz.results32, Tryz.ntmps32, go_sem, seval, eq_self, reduceCtorEq]
    all_goals simp
  · rw [b1] at hq
    simp only [go_sem, seval, eq_self, reduceCtorEq, hq, ta, tb, oa, ob, Spl.v, cS3_at, spEqF_mv, hF, List.length_map]
    repeat' ((first | (refine AG_of ?_ ?_ <;> intro h) | (refine AB_of ?_ ?_ <;> intro h) | (refine A_draw_of [] [] (by kernel_rfl) ?_ <;> have h := mark)) <;> simp only [go_sem, seval, eq_self, reduceCtorEq, hq, ta, tb, oa, ob, Spl.v, cS3_at, spEqF_mv, hF, List.length_map, h])
    all_goals (first | refine fin_ret ?_ | refine fin_normal ?_)
    all_goals simp only [resOf, Tryz.results32, Tryz.ntmps32, go_sem, seval, eq_self, reduceCtorEq]
    all_goals simp
theorem spSameS_v {x y : V} {a b : Spl} (hx : splOf x = some a) (hy : splOf y = some b) (ha : sbsFit a.bl = true) (hb : sbsFit b.bl = true) : spSameS.fn [x, y] = some (.s (.bool (decide (a = b)))) := by
  simp only [spSameS, hx, hy, Option.bind_some]
  rw [if_pos ⟨ha, hb⟩]

def sameSI (a b : Spl) (s : S) : Prop := s.env 2 = .ptr 2 1 0 ∧ s.st 2 = ⟨1, .box (.lst false 6 (a.bl.map SB.v) :: a.o.map iv)⟩ ∧ s.env 3 = .ptr 3 1 0 ∧ s.st 3 = ⟨1, .box (.lst false 6 (b.bl.map SB.v) :: b.o.map iv)⟩ ∧ ∃ k : Nat, s.env 5 = .s (.int .i64 k) ∧ k ≤ a.bl.length ∧ a.bl.take k = b.bl.take k
set_option maxRecDepth 4000 in
set_option maxHeartbeats 8000000 in
theorem rsameS_impl : Impl Tryz.prog 33 spSameS := by
  refine impl_walk2 mixed cS3_ok eqT_ok Tryz.func33 rfl Tryz.ntmps33 (by kernel_rfl) ?_
  intro xs r h
  unfold spSameS at h
  simp only at h
  (try split at h) <;> try (cases (show none = some r from h); done)
  rename_i x y
  obtain ⟨a, hu, h3⟩ := Option.bind_eq_some_iff.1 h
  obtain ⟨b, hv, h4⟩ := Option.bind_eq_some_iff.1 h3
  clear h h3
  split at h4
  case isFalse => cases h4
  rename_i hh
  obtain ⟨hfa, hfb⟩ := hh
  obtain ⟨hla, hfa⟩ := sbsFit_iff hfa
  obtain ⟨hlb, hfb⟩ := sbsFit_iff hfb
  cases h4
  obtain ⟨sa, oa⟩ := splOf_sees hu
  obtain ⟨sb, ob⟩ := splOf_sees hv
  refine ⟨_, (SeesL.cons sa (.cons sb .nil)).args, by simp [Spl.v], ?_⟩
  have hq := eqInts_iv (a := a.o) (b := b.o) (by omega)
  have ta := take_iv oa
  have tb := take_iv ob
  clear hu hv sa sb
  cases b0 : (a.o == b.o)
  case false =>
    rw [b0] at hq
    rw [show decide (a = b) = false by simp only [decide_eq_false_iff_not]; rintro rfl; simp at b0]
    simp only [go_sem, seval, eq_self, reduceCtorEq, hq, ta, tb, oa, ob, Spl.v, List.length_map]
    repeat' ((first | (refine AG_of ?_ ?_ <;> intro h) | (refine AB_of ?_ ?_ <;> intro h) | (refine A_draw_of [] [] (by kernel_rfl) ?_ <;> have h := mark)) <;> simp only [go_sem, seval, eq_self, reduceCtorEq, hq, ta, tb, oa, ob, Spl.v, List.length_map, h])
    all_goals (first | refine fin_ret ?_ | refine fin_normal ?_)
    all_goals simp only [resOf, Tryz.results33, Tryz.ntmps33, go_sem, seval, eq_self, reduceCtorEq]
  rw [b0] at hq
  have hd : decide (a = b) = decide (a.bl = b.bl) := by
    rw [decide_eq_decide, spl_ext]
    simp [eq_of_beq b0]
  rw [hd]
  by_cases hab : a.bl.length = b.bl.length
  case neg =>
    have g0 : ((a.bl.length : Int) != (b.bl.length : Int)) = true := by simp; omega
    rw [show decide (a.bl = b.bl) = false by simp only [decide_eq_false_iff_not]; intro h; exact hab (by rw [h])]
    simp only [go_sem, seval, eq_self, reduceCtorEq, g0, hq, ta, tb, oa, ob, Spl.v, List.length_map]
    repeat' ((first | (refine AG_of ?_ ?_ <;> intro h) | (refine AB_of ?_ ?_ <;> intro h) | (refine A_draw_of [] [] (by kernel_rfl) ?_ <;> have h := mark)) <;> simp only [go_sem, seval, eq_self, reduceCtorEq, g0, hq, ta, tb, oa, ob, Spl.v, List.length_map, h])
    all_goals (first | refine fin_ret ?_ | refine fin_normal ?_)
    all_goals simp only [resOf, Tryz.results33, Tryz.ntmps33, go_sem, seval, eq_self, reduceCtorEq]
  have g0 : ((a.bl.length : Int) != (b.bl.length : Int)) = false := by simp [hab]
  simp only [go_sem, seval, eq_self, reduceCtorEq, g0, hq, ta, tb, oa, ob, Spl.v, List.length_map]
  repeat' ((first | (refine AG_of ?_ ?_ <;> intro h) | (refine AB_of ?_ ?_ <;> intro h) | (refine A_draw_of [] [] (by kernel_rfl) ?_ <;> have h := mark)) <;> simp only [go_sem, seval, eq_self, reduceCtorEq, g0, hq, ta, tb, oa, ob, Spl.v, List.length_map, h])
  refine A_loop (sameSI a b) (fun s => a.bl.length - (numOf (s.env 5)).toNat) ?_ ?_
  · refine ⟨by simp [upd], by simp [upd, V.unfr, V.cells, unfrL_iv, V.unfrL], by simp [upd], by simp [upd, V.unfr, V.cells, unfrL_iv, V.unfrL], 0, by simp [upd], by omega, by simp⟩
  intro s hs
  obtain ⟨e0, t0, e1, t1, k, ek, hk, htk⟩ := hs
  rcases Nat.lt_or_ge k a.bl.length with hlt | hge
  · obtain ⟨u, q⟩ : ∃ i, a.bl[k]? = some i := ⟨a.bl[k], List.getElem?_eq_getElem hlt⟩
    obtain ⟨v, q'⟩ : ∃ i, b.bl[k]? = some i := ⟨b.bl[k]'(by omega), List.getElem?_eq_getElem (by omega)⟩
    have f0 : decide ((k : Int) < a.bl.length) = true := by simp; omega
    have z0 := Int.natCast_nonneg k
    have n2 : IntKind.i64.wrap ((k : Int) + 1) = (k + 1 : Nat) := by rw [w_i64 (by omega) (by omega)]; omega
    obtain ⟨fa, fe⟩ := sbFit_iff (hfa u (List.mem_of_getElem? q))
    obtain ⟨ga, ge⟩ := sbFit_iff (hfb v (List.mem_of_getElem? q'))
    have hA := spSameC_v fa ga false false
    have hE := spSameC_v fe ge false false
    have hne : u ≠ v → decide (a.bl = b.bl) = false := by
      intro hq
      simp only [decide_eq_false_iff_not]
      intro h
      rw [h, q'] at q
      exact hq (Option.some.inj q).symm
    cases b1 : (u.from_ != v.from_)
    case true =>
      rw [hne (by rintro rfl; simp at b1)]
      simp only [go_sem, seval, eq_self, reduceCtorEq, e0, t0, e1, t1, ek, q, q', f0, z0, n2, b1, SB.v, Int.toNat_natCast, List.getElem?_map, List.length_map]
      repeat' ((first | (refine AG_of ?_ ?_ <;> intro h) | (refine AB_of ?_ ?_ <;> intro h) | (refine A_draw_of [] [] (by kernel_rfl) ?_ <;> have h := mark)) <;> simp only [go_sem, seval, eq_self, reduceCtorEq, e0, t0, e1, t1, ek, q, q', f0, z0, n2, b1, SB.v, Int.toNat_natCast, List.getElem?_map, List.length_map, h])
      all_goals (first | refine fin_ret ?_ | refine fin_normal ?_)
      all_goals simp only [resOf, Tryz.results33, Tryz.ntmps33, go_sem, seval, eq_self, reduceCtorEq]
    cases b2 : (u.to_ != v.to_)
    case true =>
      rw [hne (by rintro rfl; simp at b2)]
      simp only [go_sem, seval, eq_self, reduceCtorEq, e0, t0, e1, t1, ek, q, q', f0, z0, n2, b1, b2, SB.v, Int.toNat_natCast, List.getElem?_map, List.length_map]
      repeat' ((first | (refine AG_of ?_ ?_ <;> intro h) | (refine AB_of ?_ ?_ <;> intro h) | (refine A_draw_of [] [] (by kernel_rfl) ?_ <;> have h := mark)) <;> simp only [go_sem, seval, eq_self, reduceCtorEq, e0, t0, e1, t1, ek, q, q', f0, z0, n2, b1, b2, SB.v, Int.toNat_natCast, List.getElem?_map, List.length_map, h])
      all_goals (first | refine fin_ret ?_ | refine fin_normal ?_)
      all_goals simp only [resOf, Tryz.results33, Tryz.ntmps33, go_sem, seval, eq_self, reduceCtorEq]
    cases b3 : (u.next != v.next)
    case true =>
      rw [hne (by rintro rfl; simp at b3)]
      simp only [go_sem, seval, eq_self, reduceCtorEq, e0, t0, e1, t1, ek, q, q', f0, z0, n2, b1, b2, b3, SB.v, Int.toNat_natCast, List.getElem?_map, List.length_map]
      repeat' ((first | (refine AG_of ?_ ?_ <;> intro h) | (refine AB_of ?_ ?_ <;> intro h) | (refine A_draw_of [] [] (by kernel_rfl) ?_ <;> have h := mark)) <;> simp only [go_sem, seval, eq_self, reduceCtorEq, e0, t0, e1, t1, ek, q, q', f0, z0, n2, b1, b2, b3, SB.v, Int.toNat_natCast, List.getElem?_map, List.length_map, h])
      all_goals (first | refine fin_ret ?_ | refine fin_normal ?_)
      all_goals simp only [resOf, Tryz.results33, Tryz.ntmps33, go_sem, seval, eq_self, reduceCtorEq]
    cases b4 : (u.taken != v.taken)
    case true =>
      rw [hne (by rintro rfl; simp at b4)]
      simp only [go_sem, seval, eq_self, reduceCtorEq, e0, t0, e1, t1, ek, q, q', f0, z0, n2, b1, b2, b3, b4, SB.v, Int.toNat_natCast, List.getElem?_map, List.length_map]
      repeat' ((first | (refine AG_of ?_ ?_ <;> intro h) | (refine AB_of ?_ ?_ <;> intro h) | (refine A_draw_of [] [] (by kernel_rfl) ?_ <;> have h := mark)) <;> simp only [go_sem, seval, eq_self, reduceCtorEq, e0, t0, e1, t1, ek, q, q', f0, z0, n2, b1, b2, b3, b4, SB.v, Int.toNat_natCast, List.getElem?_map, List.length_map, h])
      all_goals (first | refine fin_ret ?_ | refine fin_normal ?_)
      all_goals simp only [resOf, Tryz.results33, Tryz.ntmps33, go_sem, seval, eq_self, reduceCtorEq]
    cases b5 : decide (u.a = v.a)
    case false =>
      rw [b5] at hA
      rw [hne (by rintro rfl; simp at b5)]
      simp only [go_sem, seval, eq_self, reduceCtorEq, e0, t0, e1, t1, ek, q, q', f0, z0, n2, b1, b2, b3, b4, SB.v, cS3_c, spSameC_mv, hA, Int.toNat_natCast, List.getElem?_map, List.length_map]
      repeat' ((first | (refine AG_of ?_ ?_ <;> intro h) | (refine AB_of ?_ ?_ <;> intro h) | (refine A_draw_of [] [] (by kernel_rfl) ?_ <;> have h := mark)) <;> simp only [go_sem, seval, eq_self, reduceCtorEq, e0, t0, e1, t1, ek, q, q', f0, z0, n2, b1, b2, b3, b4, SB.v, cS3_c, spSameC_mv, hA, Int.toNat_natCast, List.getElem?_map, List.length_map, h])
      all_goals (first | refine fin_ret ?_ | refine fin_normal ?_)
      all_goals simp only [resOf, Tryz.results33, Tryz.ntmps33, go_sem, seval, eq_self, reduceCtorEq]
    rw [b5] at hA
    cases b6 : decide (u.e = v.e)
    case false =>
      rw [b6] at hE
      rw [hne (by rintro rfl; simp at b6)]
      simp only [go_sem, seval, eq_self, reduceCtorEq, e0, t0, e1, t1, ek, q, q', f0, z0, n2, b1, b2, b3, b4, SB.v, cS3_c, spSameC_mv, hA, hE, Int.toNat_natCast, List.getElem?_map, List.length_map]
      repeat' ((first | (refine AG_of ?_ ?_ <;> intro h) | (refine AB_of ?_ ?_ <;> intro h) | (refine A_draw_of [] [] (by kernel_rfl) ?_ <;> have h := mark)) <;> simp only [go_sem, seval, eq_self, reduceCtorEq, e0, t0, e1, t1, ek, q, q', f0, z0, n2, b1, b2, b3, b4, SB.v, cS3_c, spSameC_mv, hA, hE, Int.toNat_natCast, List.getElem?_map, List.length_map, h])
      all_goals (first | refine fin_ret ?_ | refine fin_normal ?_)
      all_goals simp only [resOf, Tryz.results33, Tryz.ntmps33, go_sem, seval, eq_self, reduceCtorEq]
    rw [b6] at hE
    have huv : u = v := by
      simp only [bne_eq_false_iff_eq] at b1 b2 b3 b4
      exact (sb_ext u v).2 ⟨b1, b2, b3, b4, of_decide_eq_true b5, of_decide_eq_true b6⟩
    simp only [go_sem, seval, eq_self, reduceCtorEq, e0, t0, e1, t1, ek, q, q', f0, z0, n2, b1, b2, b3, b4, SB.v, cS3_c, spSameC_mv, hA, hE, Int.toNat_natCast, List.getElem?_map, List.length_map]
    repeat' ((first | (refine AG_of ?_ ?_ <;> intro h) | (refine AB_of ?_ ?_ <;> intro h) | (refine A_draw_of [] [] (by kernel_rfl) ?_ <;> have h := mark)) <;> simp only [go_sem, seval, eq_self, reduceCtorEq, e0, t0, e1, t1, ek, q, q', f0, z0, n2, b1, b2, b3, b4, SB.v, cS3_c, spSameC_mv, hA, hE, Int.toNat_natCast, List.getElem?_map, List.length_map, h])
    exact ⟨⟨by simp [upd, e0], by simp [upd, t0, SB.v], by simp [upd, e1], by simp [upd, t1, SB.v], k + 1, by simp [upd], by omega, take_eq_get htk q q' huv⟩, by simp [upd, numOf, ek]; omega⟩
  · have hkl : k = a.bl.length := by omega
    have f0 : decide ((k : Int) < a.bl.length) = false := by simp; omega
    rw [hkl, List.take_length, hab, List.take_length] at htk
    have e : decide (a.bl = b.bl) = true := by simp [htk]
    rw [e]
    simp only [go_sem, seval, eq_self, reduceCtorEq, e0, t0, e1, t1, ek, f0, List.length_map]
    repeat' ((first | (refine AG_of ?_ ?_ <;> intro h) | (refine AB_of ?_ ?_ <;> intro h) | (refine A_draw_of [] [] (by kernel_rfl) ?_ <;> have h := mark)) <;> simp only [go_sem, seval, eq_self, reduceCtorEq, e0, t0, e1, t1, ek, f0, List.length_map, h])
    all_goals (first | refine fin_ret ?_ | refine fin_normal ?_)
    all_goals simp only [resOf, Tryz.results33, Tryz.ntmps33, go_sem, seval, eq_self, reduceCtorEq]

end Go.Proofs.YtkfmecmmbnehjaaGreat
