/-
SplitTells by the plain reckoning, and what comes in. No condition.
-/
import Derived.Test.YtkfmecmmbnehjaaGreatTa
import Derived.Test.YtkfmecmmbnehjaaGreatSg
import Derived.Test.YtkfmecmmbnehjaaGreatOd
namespace Go.Proofs.YtkfmecmmbnehjaaGreat
set_option linter.unusedSimpArgs false
set_option linter.unusedVariables false

/-- how many blocks and cells, as far as it is counted -/
def fewL : List SB → Int → Int
  | [], n => n
  | b :: r, n => if n < 10000 then fewL r (IntKind.i64.wrap (IntKind.i64.wrap (IntKind.i64.wrap (n + 1) + (b.a.length : Int)) + (b.e.length : Int))) else n
theorem fewL_cons (b : SB) (r : List SB) (n : Int) : fewL (b :: r) n = if n < 10000 then fewL r (IntKind.i64.wrap (IntKind.i64.wrap (IntKind.i64.wrap (n + 1) + (b.a.length : Int)) + (b.e.length : Int))) else n := rfl
theorem fewL_nil (n : Int) : fewL [] n = n := rfl
def few13 (s : Spl) : Bool := decide (fewL s.bl 0 ≤ 1500)
def spFew13 : Spec := ⟨[], fun xs => match xs with
  | [x] => (splOf x).bind fun s => if sbsFit s.bl = true then some (.s (.bool (few13 s))) else none
  | _ => none⟩
theorem spFew13_mv : spFew13.mv = [] := rfl
theorem spFew13_v {s : Spl} (ho : s.o.length = 16) (h : sbsFit s.bl = true) : spFew13.fn [s.v] = some (.s (.bool (few13 s))) := by
  have : splOf s.v = some s := splOf_v false s.bl ho
  simp only [spFew13, this, Option.bind_some, if_pos h]
def few13I (s0 : Spl) (s : S) : Prop := s.env 1 = .ptr 1 1 0 ∧ s.st 1 = ⟨1, .box (.lst false 6 (s0.bl.map SB.v) :: s0.o.map iv)⟩ ∧ ∃ (k : Nat) (n : Int), s.env 4 = .s (.int .i64 k) ∧ s.env 3 = .s (.int .i64 n) ∧ k ≤ s0.bl.length ∧ fewL (s0.bl.drop k) n = fewL s0.bl 0
set_option maxRecDepth 8000 in
set_option maxHeartbeats 4000000 in
theorem few13_impl : Impl Tryz.prog 9 spFew13 := by
  refine impl_walk2 mixed orc0_ok eqT_ok Tryz.func9 rfl Tryz.ntmps9 (by kernel_rfl) ?_
  intro xs r h
  unfold spFew13 at h
  simp only at h
  (try split at h) <;> try (cases (show none = some r from h); done)
  rename_i x
  obtain ⟨s0, hu, h4⟩ := Option.bind_eq_some_iff.1 h
  clear h
  split at h4
  case isFalse => cases h4
  rename_i hbig
  cases h4
  obtain ⟨sa, oa⟩ := splOf_sees hu
  refine ⟨_, (SeesL.cons sa .nil).args, by simp [Spl.v], ?_⟩
  have ta := take_iv oa
  obtain ⟨hl, _⟩ := sbsFit_iff hbig
  simp only [go_sem, seval, eq_self, reduceCtorEq, Spl.v, ta, oa, List.length_map]
  repeat' ((first | (refine AG_of ?_ ?_ <;> intro h) | (refine AB_of ?_ ?_ <;> intro h) | (refine A_draw_of [] [] (by kernel_rfl) ?_ <;> have h := mark)) <;> simp only [go_sem, seval, eq_self, reduceCtorEq, Spl.v, ta, oa, List.length_map, h])
  refine A_loop (few13I s0) (fun s => s0.bl.length - (numOf (s.env 4)).toNat) ?_ ?_
  · exact ⟨by simp [upd], by simp [upd, V.unfr, V.cells, unfrL_iv, V.unfrL], 0, 0, by simp [upd], by simp [upd], by omega, by simp⟩
  intro s hs
  obtain ⟨e1, t1, k, n, ek, en, hk, hf⟩ := hs
  have fin : ∀ m : Int, m = fewL s0.bl 0 → decide (m ≤ 1500) = few13 s0 := fun m hm => by
    unfold few13
    rw [← hm]
  rcases Nat.lt_or_ge k s0.bl.length with hlt | hge
  · have g0 : decide ((k : Int) < (s0.bl.length : Int)) = true := by simp; omega
    have z0 := Int.natCast_nonneg k
    obtain ⟨u, q⟩ : ∃ u, s0.bl[k]? = some u := ⟨s0.bl[k], List.getElem?_eq_getElem hlt⟩
    have hd : s0.bl.drop k = u :: s0.bl.drop (k + 1) := by
      rw [List.drop_eq_getElem_cons hlt]
      congr 1
      exact (List.getElem?_eq_some_iff.1 q).2
    rw [hd, fewL_cons] at hf
    have n2 : IntKind.i64.wrap ((k : Int) + 1) = (k + 1 : Nat) := by rw [w_i64 (by omega) (by omega)]; omega
    by_cases h1 : n < 10000
    · rw [if_pos h1] at hf
      have g1 : decide (n < 10000) = true := by simp; omega
      obtain ⟨m, hm⟩ : ∃ m, IntKind.i64.wrap (IntKind.i64.wrap (IntKind.i64.wrap (n + 1) + (u.a.length : Int)) + (u.e.length : Int)) = m := ⟨_, rfl⟩
      rw [hm] at hf
      simp only [go_sem, seval, eq_self, reduceCtorEq, e1, t1, ek, en, g0, g1, z0, q, hm, n2, SB.v, Int.toNat_natCast, List.getElem?_map, List.length_map]
      repeat' ((first | (refine AG_of ?_ ?_ <;> intro h) | (refine AB_of ?_ ?_ <;> intro h) | (refine A_draw_of [] [] (by kernel_rfl) ?_ <;> have h := mark)) <;> simp only [go_sem, seval, eq_self, reduceCtorEq, e1, t1, ek, en, g0, g1, z0, q, hm, n2, SB.v, Int.toNat_natCast, List.getElem?_map, List.length_map, h])
      exact ⟨⟨by simp [upd, e1], by simp [upd, t1], k + 1, m, by simp [upd], by simp [upd], by omega, hf⟩, by simp [upd, numOf, ek]; omega⟩
    · rw [if_neg h1] at hf
      have g1 : decide (n < 10000) = false := by simp; omega
      have hfin := fin n hf
      simp only [go_sem, seval, eq_self, reduceCtorEq, e1, t1, ek, en, g0, g1, z0, hfin, List.length_map]
      repeat' ((first | (refine AG_of ?_ ?_ <;> intro h) | (refine AB_of ?_ ?_ <;> intro h) | (refine A_draw_of [] [] (by kernel_rfl) ?_ <;> have h := mark)) <;> simp only [go_sem, seval, eq_self, reduceCtorEq, e1, t1, ek, en, g0, g1, z0, hfin, List.length_map, h])
      all_goals (first | refine fin_ret ?_ | refine fin_normal ?_)
      all_goals simp only [resOf, Tryz.results9, Tryz.ntmps9, go_sem, seval, eq_self, reduceCtorEq]
  · have g0 : decide ((k : Int) < (s0.bl.length : Int)) = false := by simp; omega
    rw [List.drop_eq_nil_of_le hge, fewL_nil] at hf
    have hfin := fin n hf
    simp only [go_sem, seval, eq_self, reduceCtorEq, e1, t1, ek, en, g0, hfin, List.length_map]
    repeat' ((first | (refine AG_of ?_ ?_ <;> intro h) | (refine AB_of ?_ ?_ <;> intro h) | (refine A_draw_of [] [] (by kernel_rfl) ?_ <;> have h := mark)) <;> simp only [go_sem, seval, eq_self, reduceCtorEq, e1, t1, ek, en, g0, hfin, List.length_map, h])
    all_goals (first | refine fin_ret ?_ | refine fin_normal ?_)
    all_goals simp only [resOf, Tryz.results9, Tryz.ntmps9, go_sem, seval, eq_self, reduceCtorEq]

theorem own_cells {l : List V} (h : TyV Tryz.prog 30 l) : ∃ o : List Int, l = o.map iv ∧ o.length = 16 := by
  obtain ⟨ls, e, hl, hf⟩ := h.array_inv Tryz.underlying30
  have key : ∀ ls : List (List V), (∀ l ∈ ls, TyV Tryz.prog 3 l) → ∃ o : List Int, ls.flatten = o.map iv ∧ o.length = ls.length := by
    intro ls
    induction ls with
    | nil => intro _; exact ⟨[], rfl, rfl⟩
    | cons l ls ih =>
      intro h
      obtain ⟨n, rfl, _⟩ := ty_i64 (h l (by simp))
      obtain ⟨o, h3, h4⟩ := ih fun l hl => h l (by simp [hl])
      exact ⟨n :: o, by rw [List.flatten_cons, h3]; rfl, by simp [h4]⟩
  obtain ⟨o, h1, h2⟩ := key ls hf
  exact ⟨o, by rw [e, h1], h2.trans hl⟩
end Go.Proofs.YtkfmecmmbnehjaaGreat
