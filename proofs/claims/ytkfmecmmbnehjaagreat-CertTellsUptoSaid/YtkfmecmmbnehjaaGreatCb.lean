/-
When lists of cells are the same. No condition.
-/
import Derived.Test.YtkfmecmmbnehjaaGreatCa
namespace Go.Proofs.YtkfmecmmbnehjaaGreat
set_option linter.unusedSimpArgs false
set_option linter.unusedVariables false

theorem cell_ext (x y : Cell) : x = y ↔ (x.kind = y.kind ∧ x.ins.op = y.ins.op ∧ x.ins.d = y.ins.d ∧ x.ins.a = y.ins.a ∧ x.ins.b = y.ins.b ∧ x.ins.imm = y.ins.imm ∧ x.reg = y.reg ∧ x.pc = y.pc ∧ x.off = y.off) := by
  constructor
  · rintro rfl; simp
  · obtain ⟨a, ⟨b, c, d, e, f⟩, g, h, i⟩ := x
    obtain ⟨a', ⟨b', c', d', e', f'⟩, g', h', i'⟩ := y
    rintro ⟨h1, h2, h3, h4, h5, h6, h7, h8, h9⟩
    simp only at *
    subst h1; subst h2; subst h3; subst h4; subst h5; subst h6; subst h7; subst h8; subst h9
    rfl
instance : DecidableEq Cell := fun x y => decidable_of_iff _ (cell_ext x y).symm
theorem cell_beq (x y : Cell) : (x.kind == y.kind && (x.ins.op == y.ins.op && (x.ins.d == y.ins.d && (x.ins.a == y.ins.a && (x.ins.b == y.ins.b && (x.ins.imm == y.ins.imm && (x.reg == y.reg && (x.pc == y.pc && x.off == y.off)))))))) = decide (x = y) := by
  rw [Bool.eq_iff_iff]
  simp only [Bool.and_eq_true, beq_iff_eq, decide_eq_true_eq]
  exact (cell_ext x y).symm
theorem take_eq_get {α : Type} {a b : List α} {k : Nat} {x y : α} (h : a.take k = b.take k) (hx : a[k]? = some x) (hy : b[k]? = some y) (e : x = y) : a.take (k + 1) = b.take (k + 1) := by
  rw [List.take_add_one, List.take_add_one, h, hx, hy, e]

def spSameC : Spec := ⟨[], fun xs => match xs with
  | [x, y] => (lOf 9 x).bind fun l => (l.mapM cellOf).bind fun a => (lOf 9 y).bind fun m => (m.mapM cellOf).bind fun b => if a.length ≤ 9223372036854775807 ∧ b.length ≤ 9223372036854775807 then some (.s (.bool (decide (a = b)))) else none
  | _ => none⟩
theorem spSameC_mv : spSameC.mv = [] := rfl
def sameCI (a b : List Cell) (s : S) : Prop := s.env 0 = .lst false 9 (a.map Cell.v) ∧ s.env 1 = .lst false 9 (b.map Cell.v) ∧ ∃ k : Nat, s.env 5 = .s (.int .i64 k) ∧ k ≤ a.length ∧ a.take k = b.take k
set_option maxHeartbeats 2000000 in
theorem sameC_impl : Impl Tryz.prog 53 spSameC := by
  refine impl_walk2 mixed orc0_ok eqT_ok Tryz.func53 rfl Tryz.ntmps53 (by kernel_rfl) ?_
  intro xs r h
  unfold spSameC at h
  simp only at h
  (try split at h) <;> try (cases (show none = some r from h); done)
  rename_i x y
  obtain ⟨l, hl, h3⟩ := Option.bind_eq_some_iff.1 h
  obtain ⟨a, ha, h4⟩ := Option.bind_eq_some_iff.1 h3
  obtain ⟨m, hm, h5⟩ := Option.bind_eq_some_iff.1 h4
  obtain ⟨b, hb, h6⟩ := Option.bind_eq_some_iff.1 h5
  clear h h3 h4 h5
  have e1 := mapM_eq (fun _ _ => cellOf_eq) ha
  have e2 := mapM_eq (fun _ _ => cellOf_eq) hb
  subst e1
  subst e2
  split at h6
  case isFalse => cases h6
  rename_i hh
  obtain ⟨hla, hlb⟩ := hh
  cases h6
  refine ⟨_, (SeesL.cons (lOf_sees hl) (.cons (lOf_sees hm) .nil)).args, by simp, ?_⟩
  by_cases hab : a.length = b.length
  case neg =>
    have g0 : ((a.length : Int) != (b.length : Int)) = true := by simp; omega
    have e : decide (a = b) = false := by simp; rintro rfl; exact hab rfl
    rw [e]
    simp only [go_sem, seval, eq_self, reduceCtorEq, g0, List.length_map]
    repeat' ((first | (refine AG_of ?_ ?_ <;> intro h) | (refine AB_of ?_ ?_ <;> intro h) | (refine A_draw_of [] [] (by kernel_rfl) ?_ <;> have h := mark)) <;> simp only [go_sem, seval, eq_self, reduceCtorEq, g0, List.length_map, h])
    all_goals (first | refine fin_ret ?_ | refine fin_normal ?_)
    all_goals simp only [resOf, Tryz.results53, Tryz.ntmps53, go_sem, seval, eq_self, reduceCtorEq]
  have g0 : ((a.length : Int) != (b.length : Int)) = false := by simp [hab]
  simp only [go_sem, seval, eq_self, reduceCtorEq, g0, List.length_map]
  repeat' ((first | (refine AG_of ?_ ?_ <;> intro h) | (refine AB_of ?_ ?_ <;> intro h) | (refine A_draw_of [] [] (by kernel_rfl) ?_ <;> have h := mark)) <;> simp only [go_sem, seval, eq_self, reduceCtorEq, g0, List.length_map, h])
  refine A_loop (sameCI a b) (fun s => a.length - (numOf (s.env 5)).toNat) ?_ ?_
  · refine ⟨by simp [upd, init, V.unfr], by simp [upd, init, V.unfr], 0, by simp [upd], by omega, by simp⟩
  intro s hs
  obtain ⟨e0, e1, k, ek, hk, htk⟩ := hs
  rcases Nat.lt_or_ge k a.length with hlt | hge
  · obtain ⟨u, q⟩ : ∃ i, a[k]? = some i := ⟨a[k], List.getElem?_eq_getElem hlt⟩
    obtain ⟨v, q'⟩ : ∃ i, b[k]? = some i := ⟨b[k]'(by omega), List.getElem?_eq_getElem (by omega)⟩
    have f0 : decide ((k : Int) < a.length) = true := by simp; omega
    have z0 := Int.natCast_nonneg k
    have n2 : IntKind.i64.wrap ((k : Int) + 1) = (k + 1 : Nat) := by rw [w_i64 (by omega) (by omega)]; omega
    have hc := cell_beq u v
    cases hq : decide (u = v)
    · rw [hq] at hc
      have e : decide (a = b) = false := by
        simp only [decide_eq_false_iff_not] at hq ⊢
        rintro rfl
        rw [q] at q'
        exact hq (Option.some.inj q')
      rw [e]
      simp only [go_sem, seval, eq_self, reduceCtorEq, e0, e1, ek, q, q', f0, z0, n2, hc, Cell.v, Int.toNat_natCast, List.getElem?_map, List.length_map]
      repeat' ((first | (refine AG_of ?_ ?_ <;> intro h) | (refine AB_of ?_ ?_ <;> intro h) | (refine A_draw_of [] [] (by kernel_rfl) ?_ <;> have h := mark)) <;> simp only [go_sem, seval, eq_self, reduceCtorEq, e0, e1, ek, q, q', f0, z0, n2, hc, Cell.v, Int.toNat_natCast, List.getElem?_map, List.length_map, h])
      all_goals (first | refine fin_ret ?_ | refine fin_normal ?_)
      all_goals simp only [resOf, Tryz.results53, Tryz.ntmps53, go_sem, seval, eq_self, reduceCtorEq]
    · rw [hq] at hc
      simp only [go_sem, seval, eq_self, reduceCtorEq, e0, e1, ek, q, q', f0, z0, n2, hc, Cell.v, Int.toNat_natCast, List.getElem?_map, List.length_map]
      repeat' ((first | (refine AG_of ?_ ?_ <;> intro h) | (refine AB_of ?_ ?_ <;> intro h) | (refine A_draw_of [] [] (by kernel_rfl) ?_ <;> have h := mark)) <;> simp only [go_sem, seval, eq_self, reduceCtorEq, e0, e1, ek, q, q', f0, z0, n2, hc, Cell.v, Int.toNat_natCast, List.getElem?_map, List.length_map, h])
      exact ⟨⟨by simp [upd, e0, Cell.v], by simp [upd, e1, Cell.v], k + 1, by simp [upd], by omega, take_eq_get htk q q' (of_decide_eq_true hq)⟩, by simp [upd, numOf, ek]; omega⟩
  · have hkl : k = a.length := by omega
    have f0 : decide ((k : Int) < a.length) = false := by simp; omega
    rw [hkl, List.take_length, hab, List.take_length] at htk
    have e : decide (a = b) = true := by simp [htk]
    rw [e]
    simp only [go_sem, seval, eq_self, reduceCtorEq, e0, e1, ek, f0, List.length_map]
    repeat' ((first | (refine AG_of ?_ ?_ <;> intro h) | (refine AB_of ?_ ?_ <;> intro h) | (refine A_draw_of [] [] (by kernel_rfl) ?_ <;> have h := mark)) <;> simp only [go_sem, seval, eq_self, reduceCtorEq, e0, e1, ek, f0, List.length_map, h])
    all_goals (first | refine fin_ret ?_ | refine fin_normal ?_)
    all_goals simp only [resOf, Tryz.results53, Tryz.ntmps53, go_sem, seval, eq_self, reduceCtorEq]
theorem spSameC_v {a b : List Cell} (ha : a.length ≤ 9223372036854775807) (hb : b.length ≤ 9223372036854775807) (k k' : Bool) : spSameC.fn [.lst k 9 (a.map Cell.v), .lst k' 9 (b.map Cell.v)] = some (.s (.bool (decide (a = b)))) := by
  have h1 : lOf 9 (.lst k 9 (a.map Cell.v)) = some (a.map Cell.v) := rfl
  have h2 : lOf 9 (.lst k' 9 (b.map Cell.v)) = some (b.map Cell.v) := rfl
  simp only [spSameC, h1, h2, Option.bind_some, mapM_of cellOf_v]
  rw [if_pos ⟨ha, hb⟩]
end Go.Proofs.YtkfmecmmbnehjaaGreat
