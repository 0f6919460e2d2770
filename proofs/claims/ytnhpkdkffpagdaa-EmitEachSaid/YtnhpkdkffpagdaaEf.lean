/-
When lists of cells are the same, or the same but for their place; the example of chapter 12, EmitTells, EmitPlaces. No condition.
-/
import Derived.Test.YtnhpkdkffpagdaaEe
namespace Go.Proofs.Ytnhpkdkffpagdaa
set_option linter.unusedSimpArgs false
set_option linter.unusedVariables false

theorem cell_ext (x y : Cell) : x = y ↔ (x.kind = y.kind ∧ x.ins.op = y.ins.op ∧ x.ins.d = y.ins.d ∧ x.ins.a = y.ins.a ∧ x.ins.b = y.ins.b ∧ x.ins.imm = y.ins.imm ∧ x.reg = y.reg ∧ x.pc = y.pc ∧ x.off = y.off) := by
  constructor
  · rintro rfl; simp
  · obtain ⟨a, ⟨b, c, d, e, f⟩, g, h, i⟩ := x
    obtain ⟨a', ⟨b', c', d', e', f'⟩, g', h', i'⟩ := y
    rintro ⟨h1, h2, h3, h4, h5, h6, h7, h8, h9⟩
    simp only at *
    subst h1; subst h2; subst h3; subst h4; subst h5; subst h6; subst h7; subst h8; subst h9
    rfl
instance : DecidableEq Cell := fun x y => decidable_of_iff _ (cell_ext x y).symm
theorem cell_beq (x y : Cell) : (x.kind == y.kind && (x.ins.op == y.ins.op && (x.ins.d == y.ins.d && (x.ins.a == y.ins.a && (x.ins.b == y.ins.b && (x.ins.imm == y.ins.imm && (x.reg == y.reg && (x.pc == y.pc && x.off == y.off)))))))) = decide (x = y) := by
  rw [Bool.eq_iff_iff]
  simp only [Bool.and_eq_true, beq_iff_eq, decide_eq_true_eq]
  exact (cell_ext x y).symm
theorem take_eq_get {α : Type} {a b : List α} {k : Nat} {x y : α} (h : a.take k = b.take k) (hx : a[k]? = some x) (hy : b[k]? = some y) (e : x = y) : a.take (k + 1) = b.take (k + 1) := by
  rw [List.take_add_one, List.take_add_one, h, hx, hy, e]

def spSameC : Spec := ⟨[], fun xs => match xs with
  | [x, y] => (lOf 9 x).bind fun l => (l.mapM cellOf).bind fun a => (lOf 9 y).bind fun m => (m.mapM cellOf).bind fun b => if a.length ≤ 1000000000 ∧ b.length ≤ 1000000000 then some (.s (.bool (decide (a = b)))) else none
  | _ => none⟩
theorem spSameC_mv : spSameC.mv = [] := rfl
def sameCI (a b : List Cell) (s : S) : Prop := s.env 0 = .lst false 9 (a.map Cell.v) ∧ s.env 1 = .lst false 9 (b.map Cell.v) ∧ ∃ k : Nat, s.env 5 = .s (.int .i64 k) ∧ k ≤ a.length ∧ a.take k = b.take k
set_option maxHeartbeats 2000000 in
theorem sameC_impl : Impl Try.prog 25 spSameC := by
  refine impl_walk2 mixed cE4_ok eqT_ok Try.func25 rfl Try.ntmps25 (by kernel_rfl) ?_
  intro xs r h
  unfold spSameC at h
  simp only at h
  (try split at h) <;> try (cases (show none = some r from h); done)
  rename_i x y
  obtain ⟨l, hl, h3⟩ := Option.bind_eq_some_iff.1 h
  obtain ⟨a, ha, h4⟩ := Option.bind_eq_some_iff.1 h3
  obtain ⟨m, hm, h5⟩ := Option.bind_eq_some_iff.1 h4
  obtain ⟨b, hb, h6⟩ := Option.bind_eq_some_iff.1 h5
  clear h h3 h4 h5
  have e1 := mapM_eq (fun _ _ => cellOf_eq) ha
  have e2 := mapM_eq (fun _ _ => cellOf_eq) hb
  subst e1
  subst e2
  split at h6
  case isFalse => cases h6
  rename_i hh
  obtain ⟨hla, hlb⟩ := hh
  cases h6
  refine ⟨_, (SeesL.cons (lOf_sees hl) (.cons (lOf_sees hm) .nil)).args, by simp, ?_⟩
  by_cases hab : a.length = b.length
  case neg =>
    have g0 : ((a.length : Int) != (b.length : Int)) = true := by simp; omega
    have e : decide (a = b) = false := by simp; rintro rfl; exact hab rfl
    rw [e]
    simp only [go_sem, seval, eq_self, reduceCtorEq, g0, List.length_map]
    repeat' ((first | (refine AG_of ?_ ?_ <;> intro h) | (refine AB_of ?_ ?_ <;> intro h) | (refine A_draw_of [] [] (by kernel_rfl) ?_ <;> have h := mark)) <;> simp only [go_sem, seval, eq_self, reduceCtorEq, g0, List.length_map, h])
    all_goals (first | refine fin_ret ?_ | refine fin_normal ?_)
    all_goals simp only [resOf, Try.results25, Try.ntmps25, go_sem, seval, eq_self, reduceCtorEq]
  have g0 : ((a.length : Int) != (b.length : Int)) = false := by simp [hab]
  simp only [go_sem, seval, eq_self, reduceCtorEq, g0, List.length_map]
  repeat' ((first | (refine AG_of ?_ ?_ <;> intro h) | (refine AB_of ?_ ?_ <;> intro h) | (refine A_draw_of [] [] (by kernel_rfl) ?_ <;> have h := mark)) <;> simp only [go_sem, seval, eq_self, reduceCtorEq, g0, List.length_map, h])
  refine A_loop (sameCI a b) (fun s => a.length - (numOf (s.env 5)).toNat) ?_ ?_
  · refine ⟨by simp [upd, init, V.unfr], by simp [upd, init, V.unfr], 0, by simp [upd], by omega, by simp⟩
  intro s hs
  obtain ⟨e0, e1, k, ek, hk, htk⟩ := hs
  rcases Nat.lt_or_ge k a.length with hlt | hge
  · obtain ⟨u, q⟩ : ∃ i, a[k]? = some i := ⟨a[k], List.getElem?_eq_getElem hlt⟩
    obtain ⟨v, q'⟩ : ∃ i, b[k]? = some i := ⟨b[k]'(by omega), List.getElem?_eq_getElem (by omega)⟩
    have f0 : decide ((k : Int) < a.length) = true := by simp; omega
    have z0 := Int.natCast_nonneg k
    have n2 : IntKind.i64.wrap ((k : Int) + 1) = (k + 1 : Nat) := by rw [w_i64 (by omega) (by omega)]; omega
    have hc := cell_beq u v
    cases hq : decide (u = v)
    · rw [hq] at hc
      have e : decide (a = b) = false := by
        simp only [decide_eq_false_iff_not] at hq ⊢
        rintro rfl
        rw [q] at q'
        exact hq (Option.some.inj q')
      rw [e]
      simp only [go_sem, seval, eq_self, reduceCtorEq, e0, e1, ek, q, q', f0, z0, n2, hc, Cell.v, Int.toNat_natCast, List.getElem?_map, List.length_map]
      repeat' ((first | (refine AG_of ?_ ?_ <;> intro h) | (refine AB_of ?_ ?_ <;> intro h) | (refine A_draw_of [] [] (by kernel_rfl) ?_ <;> have h := mark)) <;> simp only [go_sem, seval, eq_self, reduceCtorEq, e0, e1, ek, q, q', f0, z0, n2, hc, Cell.v, Int.toNat_natCast, List.getElem?_map, List.length_map, h])
      all_goals (first | refine fin_ret ?_ | refine fin_normal ?_)
      all_goals simp only [resOf, Try.results25, Try.ntmps25, go_sem, seval, eq_self, reduceCtorEq]
    · rw [hq] at hc
      simp only [go_sem, seval, eq_self, reduceCtorEq, e0, e1, ek, q, q', f0, z0, n2, hc, Cell.v, Int.toNat_natCast, List.getElem?_map, List.length_map]
      repeat' ((first | (refine AG_of ?_ ?_ <;> intro h) | (refine AB_of ?_ ?_ <;> intro h) | (refine A_draw_of [] [] (by kernel_rfl) ?_ <;> have h := mark)) <;> simp only [go_sem, seval, eq_self, reduceCtorEq, e0, e1, ek, q, q', f0, z0, n2, hc, Cell.v, Int.toNat_natCast, List.getElem?_map, List.length_map, h])
      exact ⟨⟨by simp [upd, e0, Cell.v], by simp [upd, e1, Cell.v], k + 1, by simp [upd], by omega, take_eq_get htk q q' (of_decide_eq_true hq)⟩, by simp [upd, numOf, ek]; omega⟩
  · have hkl : k = a.length := by omega
    have f0 : decide ((k : Int) < a.length) = false := by simp; omega
    rw [hkl, List.take_length, hab, List.take_length] at htk
    have e : decide (a = b) = true := by simp [htk]
    rw [e]
    simp only [go_sem, seval, eq_self, reduceCtorEq, e0, e1, ek, f0, List.length_map]
    repeat' ((first | (refine AG_of ?_ ?_ <;> intro h) | (refine AB_of ?_ ?_ <;> intro h) | (refine A_draw_of [] [] (by kernel_rfl) ?_ <;> have h := mark)) <;> simp only [go_sem, seval, eq_self, reduceCtorEq, e0, e1, ek, f0, List.length_map, h])
    all_goals (first | refine fin_ret ?_ | refine fin_normal ?_)
    all_goals simp only [resOf, Try.results25, Try.ntmps25, go_sem, seval, eq_self, reduceCtorEq]
theorem spSameC_v {a b : List Cell} (ha : a.length ≤ 1000000000) (hb : b.length ≤ 1000000000) (k k' : Bool) : spSameC.fn [.lst k 9 (a.map Cell.v), .lst k' 9 (b.map Cell.v)] = some (.s (.bool (decide (a = b)))) := by
  have h1 : lOf 9 (.lst k 9 (a.map Cell.v)) = some (a.map Cell.v) := rfl
  have h2 : lOf 9 (.lst k' 9 (b.map Cell.v)) = some (b.map Cell.v) := rfl
  simp only [spSameC, h1, h2, Option.bind_some, mapM_of cellOf_v]
  rw [if_pos ⟨ha, hb⟩]
theorem spSameC_nil : spSameC.fn [.s (.slice none 0 0), .s (.slice none 0 0)] = some (.s (.bool true)) := by kernel_rfl

def movC1 (pc off : Int) (c : Cell) : Cell := ⟨c.kind, c.ins, c.reg, pc, off⟩
def spMoved : Spec := ⟨[], fun xs => match xs with
  | [x, y, .s (.int .i64 pc), .s (.int .i64 off)] => (lOf 9 x).bind fun l => (l.mapM cellOf).bind fun a => (lOf 9 y).bind fun m => (m.mapM cellOf).bind fun b => if a.length ≤ 1000000000 ∧ b.length ≤ 1000000000 then some (.s (.bool (decide (b = a.map (movC1 pc off))))) else none
  | _ => none⟩
theorem spMoved_mv : spMoved.mv = [] := rfl
def movedI (a b : List Cell) (pc off : Int) (s : S) : Prop := s.env 0 = .lst false 9 (a.map Cell.v) ∧ s.env 1 = .lst false 9 (b.map Cell.v) ∧ s.env 2 = .s (.int .i64 pc) ∧ s.env 3 = .s (.int .i64 off) ∧ ∃ k : Nat, s.env 9 = .s (.int .i64 k) ∧ k ≤ a.length ∧ b.take k = (a.map (movC1 pc off)).take k
set_option maxHeartbeats 2000000 in
theorem moved_impl : Impl Try.prog 30 spMoved := by
  refine impl_walk2 mixed cE4_ok eqT_ok Try.func30 rfl Try.ntmps30 (by kernel_rfl) ?_
  intro xs r h
  unfold spMoved at h
  simp only at h
  (try split at h) <;> try (cases (show none = some r from h); done)
  rename_i x y pc off
  obtain ⟨l, hl, h3⟩ := Option.bind_eq_some_iff.1 h
  obtain ⟨a, ha, h4⟩ := Option.bind_eq_some_iff.1 h3
  obtain ⟨m, hm, h5⟩ := Option.bind_eq_some_iff.1 h4
  obtain ⟨b, hb, h6⟩ := Option.bind_eq_some_iff.1 h5
  clear h h3 h4 h5
  have e1 := mapM_eq (fun _ _ => cellOf_eq) ha
  have e2 := mapM_eq (fun _ _ => cellOf_eq) hb
  subst e1
  subst e2
  split at h6
  case isFalse => cases h6
  rename_i hh
  obtain ⟨hla, hlb⟩ := hh
  cases h6
  refine ⟨_, (SeesL.cons (lOf_sees hl) (.cons (lOf_sees hm) .same)).args, by simp, ?_⟩
  by_cases hab : a.length = b.length
  case neg =>
    have g0 : ((a.length : Int) != (b.length : Int)) = true := by simp; omega
    have e : decide (b = a.map (movC1 pc off)) = false := by simp; rintro rfl; exact hab (by simp)
    rw [e]
    simp only [go_sem, seval, eq_self, reduceCtorEq, g0, List.length_map]
    repeat' ((first | (refine AG_of ?_ ?_ <;> intro h) | (refine AB_of ?_ ?_ <;> intro h) | (refine A_draw_of [] [] (by kernel_rfl) ?_ <;> have h := mark)) <;> simp only [go_sem, seval, eq_self, reduceCtorEq, g0, List.length_map, h])
    all_goals (first | refine fin_ret ?_ | refine fin_normal ?_)
    all_goals simp only [resOf, Try.results30, Try.ntmps30, go_sem, seval, eq_self, reduceCtorEq]
  have g0 : ((a.length : Int) != (b.length : Int)) = false := by simp [hab]
  simp only [go_sem, seval, eq_self, reduceCtorEq, g0, List.length_map]
  repeat' ((first | (refine AG_of ?_ ?_ <;> intro h) | (refine AB_of ?_ ?_ <;> intro h) | (refine A_draw_of [] [] (by kernel_rfl) ?_ <;> have h := mark)) <;> simp only [go_sem, seval, eq_self, reduceCtorEq, g0, List.length_map, h])
  refine A_loop (movedI a b pc off) (fun s => a.length - (numOf (s.env 9)).toNat) ?_ ?_
  · refine ⟨by simp [upd, init, V.unfr], by simp [upd, init, V.unfr], by simp [upd, init, V.unfr], by simp [upd, init, V.unfr], 0, by simp [upd], by omega, by simp⟩
  intro s hs
  obtain ⟨e0, e1, e2, e3, k, ek, hk, htk⟩ := hs
  rcases Nat.lt_or_ge k a.length with hlt | hge
  · obtain ⟨u, q⟩ : ∃ i, a[k]? = some i := ⟨a[k], List.getElem?_eq_getElem hlt⟩
    obtain ⟨v, q'⟩ : ∃ i, b[k]? = some i := ⟨b[k]'(by omega), List.getElem?_eq_getElem (by omega)⟩
    have f0 : decide ((k : Int) < a.length) = true := by simp; omega
    have z0 := Int.natCast_nonneg k
    have n2 : IntKind.i64.wrap ((k : Int) + 1) = (k + 1 : Nat) := by rw [w_i64 (by omega) (by omega)]; omega
    have hc : (v.kind == u.kind && (v.ins.op == u.ins.op && (v.ins.d == u.ins.d && (v.ins.a == u.ins.a && (v.ins.b == u.ins.b && (v.ins.imm == u.ins.imm && (v.reg == u.reg && (v.pc == pc && v.off == off)))))))) = decide (v = movC1 pc off u) := cell_beq v (movC1 pc off u)
    have qm : (a.map (movC1 pc off))[k]? = some (movC1 pc off u) := by rw [List.getElem?_map, q]; rfl
    cases hq : decide (v = movC1 pc off u)
    · rw [hq] at hc
      have e : decide (b = a.map (movC1 pc off)) = false := by
        simp only [decide_eq_false_iff_not] at hq ⊢
        rintro rfl
        rw [qm] at q'
        exact hq (Option.some.inj q').symm
      rw [e]
      simp only [go_sem, seval, eq_self, reduceCtorEq, e0, e1, e2, e3, ek, q, q', f0, z0, n2, hc, Cell.v, Int.toNat_natCast, List.getElem?_map, List.length_map]
      repeat' ((first | (refine AG_of ?_ ?_ <;> intro h) | (refine AB_of ?_ ?_ <;> intro h) | (refine A_draw_of [] [] (by kernel_rfl) ?_ <;> have h := mark)) <;> simp only [go_sem, seval, eq_self, reduceCtorEq, e0, e1, e2, e3, ek, q, q', f0, z0, n2, hc, Cell.v, Int.toNat_natCast, List.getElem?_map, List.length_map, h])
      all_goals (first | refine fin_ret ?_ | refine fin_normal ?_)
      all_goals simp only [resOf, Try.results30, Try.ntmps30, go_sem, seval, eq_self, reduceCtorEq]
    · rw [hq] at hc
      simp only [go_sem, seval, eq_self, reduceCtorEq, e0, e1, e2, e3, ek, q, q', f0, z0, n2, hc, Cell.v, Int.toNat_natCast, List.getElem?_map, List.length_map]
      repeat' ((first | (refine AG_of ?_ ?_ <;> intro h) | (refine AB_of ?_ ?_ <;> intro h) | (refine A_draw_of [] [] (by kernel_rfl) ?_ <;> have h := mark)) <;> simp only [go_sem, seval, eq_self, reduceCtorEq, e0, e1, e2, e3, ek, q, q', f0, z0, n2, hc, Cell.v, Int.toNat_natCast, List.getElem?_map, List.length_map, h])
      exact ⟨⟨by simp [upd, e0, Cell.v], by simp [upd, e1, Cell.v], by simp [upd, e2], by simp [upd, e3], k + 1, by simp [upd], by omega, take_eq_get htk q' qm (of_decide_eq_true hq)⟩, by simp [upd, numOf, ek]; omega⟩
  · have hkl : k = a.length := by omega
    have f0 : decide ((k : Int) < a.length) = false := by simp; omega
    rw [hkl, List.take_of_length_le (by omega), List.take_of_length_le (by simp)] at htk
    have e : decide (b = a.map (movC1 pc off)) = true := by simp [htk]
    rw [e]
    simp only [go_sem, seval, eq_self, reduceCtorEq, e0, e1, ek, f0, List.length_map]
    repeat' ((first | (refine AG_of ?_ ?_ <;> intro h) | (refine AB_of ?_ ?_ <;> intro h) | (refine A_draw_of [] [] (by kernel_rfl) ?_ <;> have h := mark)) <;> simp only [go_sem, seval, eq_self, reduceCtorEq, e0, e1, ek, f0, List.length_map, h])
    all_goals (first | refine fin_ret ?_ | refine fin_normal ?_)
    all_goals simp only [resOf, Try.results30, Try.ntmps30, go_sem, seval, eq_self, reduceCtorEq]
theorem spMoved_v {a b : List Cell} (ha : a.length ≤ 1000000000) (hb : b.length ≤ 1000000000) (pc off : Int) (k k' : Bool) : spMoved.fn [.lst k 9 (a.map Cell.v), .lst k' 9 (b.map Cell.v), .s (.int .i64 pc), .s (.int .i64 off)] = some (.s (.bool (decide (b = a.map (movC1 pc off))))) := by
  have h1 : lOf 9 (.lst k 9 (a.map Cell.v)) = some (a.map Cell.v) := rfl
  have h2 : lOf 9 (.lst k' 9 (b.map Cell.v)) = some (b.map Cell.v) := rfl
  simp only [spMoved, h1, h2, Option.bind_some, mapM_of cellOf_v]
  rw [if_pos ⟨ha, hb⟩]
theorem spMoved_nil (pc off : Int) : spMoved.fn [.s (.slice none 0 0), .s (.slice none 0 0), .s (.int .i64 pc), .s (.int .i64 off)] = some (.s (.bool true)) := by kernel_rfl

def cE5 : Orc := upd (upd (upd (upd (upd cE4 26 (some spA)) 27 (some spE)) 24 (some spREmit)) 25 (some spSameC)) 30 (some spMoved)
theorem cE5_ok : ∀ g sp, cE5 g = some sp → Impl Try.prog g sp := orc_upd (orc_upd (orc_upd (orc_upd (orc_upd cE4_ok emitA_impl) emitE_impl) remit_impl) sameC_impl) moved_impl
theorem cE5_at : cE5 26 = some spA ∧ cE5 27 = some spE ∧ cE5 24 = some spREmit ∧ cE5 25 = some spSameC ∧ cE5 30 = some spMoved := ⟨rfl, rfl, rfl, rfl, rfl⟩
theorem alive12_a : spA.fn [.agg [.s (.int .i64 41), .s (.int .i64 0), .s (.int .i64 0), .s (.int .i64 0), .s (.int .i64 0)], .agg [.s (.int .i64 0), .s (.int .i64 0), .s (.int .i64 0), .s (.int .i64 0), .s (.int .i64 0), .s (.int .i64 0), .s (.int .i64 0), .s (.int .i64 0), .s (.int .i64 0), .s (.int .i64 0), .s (.int .i64 0), .s (.int .i64 0), .s (.int .i64 0), .s (.int .i64 0), .s (.int .i64 0), .s (.int .i64 0)], .s (.int .i64 0), .s (.int .i64 0)] =
    some (.own 9 51 [.agg [.s (.int .i64 12), .s (.int .i64 0), .s (.int .i64 0), .s (.int .i64 0), .s (.int .i64 0), .s (.int .i64 0), .s (.int .i64 0), .s (.int .i64 0), .s (.int .i64 0)]]) := by kernel_rfl
theorem alive12_e : spE.fn [.agg [.s (.int .i64 31), .s (.int .i64 0), .s (.int .i64 1), .s (.int .i64 1), .s (.int .i64 0)], .agg [.s (.int .i64 0), .s (.int .i64 1), .s (.int .i64 2), .s (.int .i64 0), .s (.int .i64 0), .s (.int .i64 0), .s (.int .i64 0), .s (.int .i64 0), .s (.int .i64 0), .s (.int .i64 0), .s (.int .i64 0), .s (.int .i64 0), .s (.int .i64 0), .s (.int .i64 0), .s (.int .i64 0), .s (.int .i64 0)], .s (.int .i64 3), .s (.int .i64 0)] =
    some (.own 9 51 [.agg [.s (.int .i64 6), .s (.int .i64 0), .s (.int .i64 0), .s (.int .i64 0), .s (.int .i64 0), .s (.int .i64 0), .s (.int .i64 1), .s (.int .i64 3), .s (.int .i64 0)], .agg [.s (.int .i64 8), .s (.int .i64 0), .s (.int .i64 0), .s (.int .i64 0), .s (.int .i64 0), .s (.int .i64 0), .s (.int .i64 1), .s (.int .i64 3), .s (.int .i64 0)]]) := by kernel_rfl
theorem alive12_impl : Impl Try.prog 23 spTrue := by
  refine impl_walk mixed cE5_ok eqT_ok Try.func23 rfl Try.ntmps23 (by kernel_rfl) ?_
  intro xs r h
  unfold spTrue at h
  simp only at h
  (try split at h) <;> try (cases (show none = some r from h); done)
  cases h
  refine ⟨by simp, ?_⟩
  simp only [go_sem, seval, eq_self, reduceCtorEq, cE5_at, spA_mv, spE_mv, alive12_a, alive12_e]
  repeat' ((first | (refine AG_of ?_ ?_ <;> intro h) | (refine AB_of ?_ ?_ <;> intro h) | (refine A_draw_of [] [] (by kernel_rfl) ?_ <;> have h := mark)) <;> simp only [go_sem, seval, eq_self, reduceCtorEq, cE5_at, spA_mv, spE_mv, alive12_a, alive12_e, h])
  all_goals (first | refine fin_ret ?_ | refine fin_normal ?_)
  all_goals simp only [resOf, Try.results23, Try.ntmps23, go_sem, seval, eq_self, reduceCtorEq]
def cE6 : Orc := upd cE5 23 (some spTrue)
theorem cE6_ok : ∀ g sp, cE6 g = some sp → Impl Try.prog g sp := orc_upd cE5_ok alive12_impl
theorem cE6_at : cE6 23 = some spTrue ∧ cE6 26 = some spA ∧ cE6 27 = some spE ∧ cE6 24 = some spREmit ∧ cE6 25 = some spSameC ∧ cE6 30 = some spMoved := ⟨rfl, rfl, rfl, rfl, rfl, rfl⟩
theorem cE6_rt : cE6 28 = some spRight ∧ cE6 29 = some spForm := ⟨rfl, rfl⟩

theorem aCells_len (i : Ins) (o : List Int) (pc off : Int) : (aCells i o pc off).length ≤ 3 := by
  unfold aCells
  have := sent_len i o
  (repeat' split) <;> simp <;> omega
theorem eCells_len (i : Ins) (o : List Int) (pc off : Int) : (eCells i o pc off).length ≤ 3 := by
  unfold eCells
  have := sent_len i o
  (repeat' split) <;> simp <;> omega
theorem ownC_nil : ownC [] = .s (.slice none 0 0) := rfl
theorem ownC_cons (c : Cell) (l : List Cell) : ownC (c :: l) = .own 9 51 ((c :: l).map Cell.v) := rfl
theorem lstC_nil : lstC [] = .s (.slice none 0 0) := rfl
theorem lstC_cons (c : Cell) (l : List Cell) : lstC (c :: l) = .lst true 9 ((c :: l).map Cell.v) := rfl
/-- a list of cells as a function answers it: nothing, or a row that is left as it is -/
theorem ownC_cases (l : List Cell) : (l = [] ∧ ownC l = .s (.slice none 0 0) ∧ lstC l = .s (.slice none 0 0)) ∨ (l ≠ [] ∧ ownC l = .own 9 51 (l.map Cell.v) ∧ lstC l = .lst true 9 (l.map Cell.v)) := by
  cases l with
  | nil => exact .inl ⟨rfl, rfl, rfl⟩
  | cons c l => exact .inr ⟨by simp, rfl, rfl⟩

def spETells : Spec := ⟨[], fun xs => match xs with
  | [.agg [.s (.int .i64 _), .s (.int .i64 _), .s (.int .i64 _), .s (.int .i64 _), .s (.int .i64 _)], y, .s (.int .i64 _), .s (.int .i64 _)] => (ownOf y).bind fun _ => some (.s (.bool true))
  | _ => none⟩
set_option maxHeartbeats 4000000 in
theorem etells_impl : Impl Try.prog 8 spETells := by
  refine impl_walk mixed cE6_ok eqT_ok Try.func8 rfl Try.ntmps8 (by kernel_rfl) ?_
  intro xs r h
  unfold spETells at h
  simp only at h
  (try split at h) <;> try (cases (show none = some r from h); done)
  rename_i op d a b imm y pc off
  obtain ⟨o, ho, h2⟩ := Option.bind_eq_some_iff.1 h
  clear h
  cases h2
  obtain ⟨rfl, hlen⟩ := ownOf_eq ho
  clear ho
  refine ⟨by simp [ownV], ?_⟩
  have ht := take_iv hlen
  have hA := spA_v hlen op d a b imm pc off
  have hE := spE_v hlen op d a b imm pc off
  have hR := spREmit_v hlen op d a b imm pc off
  have la := aCells_len ⟨op, d, a, b, imm⟩ o pc off
  have le := eCells_len ⟨op, d, a, b, imm⟩ o pc off
  obtain ⟨A, hA0⟩ : ∃ A, aCells ⟨op, d, a, b, imm⟩ o pc off = A := ⟨_, rfl⟩
  obtain ⟨E, hE0⟩ : ∃ E, eCells ⟨op, d, a, b, imm⟩ o pc off = E := ⟨_, rfl⟩
  rw [hA0] at hA hR la
  rw [hE0] at hE hR le
  have sA := spSameC_v (a := A) (b := A) (by omega) (by omega) false false
  have sE := spSameC_v (a := E) (b := E) (by omega) (by omega) false false
  rw [show decide (A = A) = true by simp] at sA
  rw [show decide (E = E) = true by simp] at sE
  rcases ownC_cases A with ⟨_, oa, ra⟩ | ⟨_, oa, ra⟩ <;> rcases ownC_cases E with ⟨_, oe, re⟩ | ⟨_, oe, re⟩
  all_goals
    rw [oa] at hA
    rw [oe] at hE
    rw [ra, re] at hR
    simp only [go_sem, seval, eq_self, reduceCtorEq, cE6_at, spTrue_mv, spTrue_fn, spA_mv, spE_mv, spREmit_mv, spSameC_mv, hA, hE, hR, sA, sE, spSameC_nil, ht, hlen, ownV, List.length_map]
    repeat' ((first | (refine AG_of ?_ ?_ <;> intro h) | (refine AB_of ?_ ?_ <;> intro h) | (refine A_draw_of [] [] (by kernel_rfl) ?_ <;> have h := mark)) <;> simp only [go_sem, seval, eq_self, reduceCtorEq, cE6_at, spTrue_mv, spTrue_fn, spA_mv, spE_mv, spREmit_mv, spSameC_mv, hA, hE, hR, sA, sE, spSameC_nil, ht, hlen, ownV, List.length_map, h])
    all_goals (first | refine fin_ret ?_ | refine fin_normal ?_)
    all_goals simp only [resOf, Try.results8, Try.ntmps8, go_sem, seval, eq_self, reduceCtorEq]

def spAL : Spec := ⟨[], fun xs => (spA.fn xs).map asLst⟩
def spEL : Spec := ⟨[], fun xs => (spE.fn xs).map asLst⟩
theorem spAL_mv : spAL.mv = [] := rfl
theorem spEL_mv : spEL.mv = [] := rfl
theorem asLst_ownC (l : List Cell) : asLst (ownC l) = lstC l := by cases l <;> rfl
theorem spAL_v {o : List Int} (ho : o.length = 16) (op d a b imm pc off : Int) : spAL.fn [.agg [.s (.int .i64 op), .s (.int .i64 d), .s (.int .i64 a), .s (.int .i64 b), .s (.int .i64 imm)], .agg (o.map iv), .s (.int .i64 pc), .s (.int .i64 off)] = some (lstC (aCells ⟨op, d, a, b, imm⟩ o pc off)) := by
  simp only [spAL, spA_v ho, Option.map_some, asLst_ownC]
theorem spEL_v {o : List Int} (ho : o.length = 16) (op d a b imm pc off : Int) : spEL.fn [.agg [.s (.int .i64 op), .s (.int .i64 d), .s (.int .i64 a), .s (.int .i64 b), .s (.int .i64 imm)], .agg (o.map iv), .s (.int .i64 pc), .s (.int .i64 off)] = some (lstC (eCells ⟨op, d, a, b, imm⟩ o pc off)) := by
  simp only [spEL, spE_v ho, Option.map_some, asLst_ownC]
def cE7 : Orc := upd (upd cE6 26 (some spAL)) 27 (some spEL)
theorem cE7_ok : ∀ g sp, cE7 g = some sp → Impl Try.prog g sp := orc_upd (orc_upd cE6_ok (impl_lst emitA_impl)) (impl_lst emitE_impl)
theorem cE7_at : cE7 23 = some spTrue ∧ cE7 26 = some spAL ∧ cE7 27 = some spEL ∧ cE7 30 = some spMoved := ⟨rfl, rfl, rfl, rfl⟩
theorem aCells_mov (i : Ins) (o : List Int) (pc off pc' off' : Int) : aCells i o pc' off' = (aCells i o pc off).map (movC1 pc' off') := by
  unfold aCells
  (repeat' split) <;> simp [movC1, cI, cR, cB, Function.comp_def]
theorem eCells_mov (i : Ins) (o : List Int) (pc off pc' off' : Int) : eCells i o pc' off' = (eCells i o pc off).map (movC1 pc' off') := by
  unfold eCells
  (repeat' split) <;> simp [movC1, cI, cR, cB, Function.comp_def]

def spEPlaces : Spec := ⟨[], fun xs => match xs with
  | [.agg [.s (.int .i64 _), .s (.int .i64 _), .s (.int .i64 _), .s (.int .i64 _), .s (.int .i64 _)], y, .s (.int .i64 _), .s (.int .i64 _), .s (.int .i64 _), .s (.int .i64 _)] => (ownOf y).bind fun _ => some (.s (.bool true))
  | _ => none⟩
set_option maxHeartbeats 4000000 in
theorem eplaces_impl : Impl Try.prog 10 spEPlaces := by
  refine impl_walk mixed cE7_ok eqT_ok Try.func10 rfl Try.ntmps10 (by kernel_rfl) ?_
  intro xs r h
  unfold spEPlaces at h
  simp only at h
  (try split at h) <;> try (cases (show none = some r from h); done)
  rename_i op d a b imm y pc off pc' off'
  obtain ⟨o, ho, h2⟩ := Option.bind_eq_some_iff.1 h
  clear h
  cases h2
  obtain ⟨rfl, hlen⟩ := ownOf_eq ho
  clear ho
  refine ⟨by simp [ownV], ?_⟩
  have ht := take_iv hlen
  have hA := spAL_v hlen op d a b imm pc off
  have hA' := spAL_v hlen op d a b imm pc' off'
  have hE := spEL_v hlen op d a b imm pc off
  have hE' := spEL_v hlen op d a b imm pc' off'
  have la := aCells_len ⟨op, d, a, b, imm⟩ o pc off
  have le := eCells_len ⟨op, d, a, b, imm⟩ o pc off
  rw [aCells_mov ⟨op, d, a, b, imm⟩ o pc off] at hA'
  rw [eCells_mov ⟨op, d, a, b, imm⟩ o pc off] at hE'
  obtain ⟨A, hA0⟩ : ∃ A, aCells ⟨op, d, a, b, imm⟩ o pc off = A := ⟨_, rfl⟩
  obtain ⟨E, hE0⟩ : ∃ E, eCells ⟨op, d, a, b, imm⟩ o pc off = E := ⟨_, rfl⟩
  rw [hA0] at hA hA' la
  rw [hE0] at hE hE' le
  have sA := spMoved_v (a := A) (b := A.map (movC1 pc' off')) (by omega) (by simp; omega) pc' off' false false
  have sE := spMoved_v (a := E) (b := E.map (movC1 pc' off')) (by omega) (by simp; omega) pc' off' false false
  rw [show decide (A.map (movC1 pc' off') = A.map (movC1 pc' off')) = true by simp] at sA
  rw [show decide (E.map (movC1 pc' off') = E.map (movC1 pc' off')) = true by simp] at sE
  obtain ⟨A', hA1⟩ : ∃ A', A.map (movC1 pc' off') = A' := ⟨_, rfl⟩
  obtain ⟨E', hE1⟩ : ∃ E', E.map (movC1 pc' off') = E' := ⟨_, rfl⟩
  rw [hA1] at hA' sA
  rw [hE1] at hE' sE
  have ea : A = [] ↔ A' = [] := by rw [← hA1]; simp
  have ee : E = [] ↔ E' = [] := by rw [← hE1]; simp
  have sn := spMoved_nil pc' off'
  rcases ownC_cases A with ⟨na, _, ra⟩ | ⟨na, _, ra⟩ <;> rcases ownC_cases A' with ⟨na', _, ra'⟩ | ⟨na', _, ra'⟩ <;> rcases ownC_cases E with ⟨ne, _, re⟩ | ⟨ne, _, re⟩ <;> rcases ownC_cases E' with ⟨ne', _, re'⟩ | ⟨ne', _, re'⟩
  all_goals first | exact absurd (ea.1 na) na' | exact absurd (ea.2 na') na | exact absurd (ee.1 ne) ne' | exact absurd (ee.2 ne') ne | skip
  all_goals
    rw [ra] at hA
    rw [ra'] at hA'
    rw [re] at hE
    rw [re'] at hE'
    simp only [go_sem, seval, eq_self, reduceCtorEq, cE7_at, spTrue_mv, spTrue_fn, spAL_mv, spEL_mv, spMoved_mv, hA, hA', hE, hE', sA, sE, sn, ht, hlen, ownV, List.length_map]
    repeat' ((first | (refine AG_of ?_ ?_ <;> intro h) | (refine AB_of ?_ ?_ <;> intro h) | (refine A_draw_of [] [] (by kernel_rfl) ?_ <;> have h := mark)) <;> simp only [go_sem, seval, eq_self, reduceCtorEq, cE7_at, spTrue_mv, spTrue_fn, spAL_mv, spEL_mv, spMoved_mv, hA, hA', hE, hE', sA, sE, sn, ht, hlen, ownV, List.length_map, h])
    all_goals (first | refine fin_ret ?_ | refine fin_normal ?_)
    all_goals simp only [resOf, Try.results10, Try.ntmps10, go_sem, seval, eq_self, reduceCtorEq]
end Go.Proofs.Ytnhpkdkffpagdaa
