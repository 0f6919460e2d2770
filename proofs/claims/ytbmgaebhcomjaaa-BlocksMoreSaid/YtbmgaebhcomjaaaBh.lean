/-
The example of chapter 10; a block's number further on. No condition.
-/
import Derived.Test.YtbmgaebhcomjaaaBg
namespace Go.Proofs.Ytbmgaebhcomjaaa
set_option linter.unusedSimpArgs false
set_option linter.unusedVariables false

def spShift : Spec := ⟨[], fun xs => match xs with
  | [.s (.int .i64 n), .s (.int .i64 b)] => if -1 ≤ n ∧ n ≤ 1000000 ∧ 0 ≤ b ∧ b ≤ 1000000 then some (.s (.int .i64 (if n < 0 then -1 else n + b))) else none
  | _ => none⟩
theorem spShift_mv : spShift.mv = [] := rfl
theorem shift_impl : Impl Try.prog 17 spShift := by
  refine impl_walk mixed orc0_ok eqT_ok Try.func17 rfl Try.ntmps17 (by kernel_rfl) ?_
  intro xs r h
  unfold spShift at h
  simp only at h
  (try split at h) <;> try (cases (show none = some r from h); done)
  rename_i n b
  split at h
  case isFalse => cases h
  rename_i hh
  obtain ⟨h1, h2, h3, h4⟩ := hh
  cases h
  have hw : IntKind.i64.wrap (n + b) = n + b := w_i64 (by omega) (by omega)
  by_cases hn : n < 0
  · rw [if_pos hn]
    have g : decide (n < 0) = true := by simp [hn]
    simp only [go_sem, seval, eq_self, reduceCtorEq, g, hw]
    repeat' ((first | (refine AG_of ?_ ?_ <;> intro h) | (refine AB_of ?_ ?_ <;> intro h) | (refine A_draw_of [] [] (by kernel_rfl) ?_ <;> have h := mark)) <;> simp only [go_sem, seval, eq_self, reduceCtorEq, g, hw, h])
    all_goals (first | refine fin_ret ?_ | refine fin_normal ?_)
    all_goals simp only [resOf, Try.results17, Try.ntmps17, go_sem, seval, eq_self, reduceCtorEq]
  · rw [if_neg hn]
    have g : decide (n < 0) = false := by simp; omega
    simp only [go_sem, seval, eq_self, reduceCtorEq, g, hw]
    repeat' ((first | (refine AG_of ?_ ?_ <;> intro h) | (refine AB_of ?_ ?_ <;> intro h) | (refine A_draw_of [] [] (by kernel_rfl) ?_ <;> have h := mark)) <;> simp only [go_sem, seval, eq_self, reduceCtorEq, g, hw, h])
    all_goals (first | refine fin_ret ?_ | refine fin_normal ?_)
    all_goals simp only [resOf, Try.results17, Try.ntmps17, go_sem, seval, eq_self, reduceCtorEq]
def cB5 : Orc := upd (upd (upd cB3 12 (some spCut)) 13 (some spCut)) 17 (some spShift)
theorem cB5_ok : ∀ g sp, cB5 g = some sp → Impl Try.prog g sp := orc_upd (orc_upd (orc_upd cB3_ok cut_impl) rcut_impl) shift_impl
theorem cB5_at : cB5 12 = some spCut ∧ cB5 9 = some spLead := ⟨rfl, rfl⟩
def prA : Prg := ⟨[⟨34, 0, 0, 0, 1⟩, ⟨41, 0, 0, 0, 0⟩], 0, []⟩
def prH : Prg := ⟨[⟨41, 0, 0, 0, 0⟩], 0, []⟩
theorem rightA : rightP prA = true := by decide +kernel
theorem rightH : rightP prH = true := by decide +kernel
theorem cutA : cutL prA = [⟨0, 1, 1, 1⟩, ⟨1, 2, -1, -1⟩] := by decide +kernel
theorem alive_cut : spCut.fn [.agg [.lst false 5 [.agg [.s (.int .i64 34), .s (.int .i64 0), .s (.int .i64 0), .s (.int .i64 0), .s (.int .i64 1)], .agg [.s (.int .i64 41), .s (.int .i64 0), .s (.int .i64 0), .s (.int .i64 0), .s (.int .i64 0)]], .s (.int .i64 0), .s (.slice none 0 0)]] = some (.lst true 6 [.agg [.s (.int .i64 0), .s (.int .i64 1), .s (.int .i64 1), .s (.int .i64 1), .s (.slice none 0 0), .s (.slice none 0 0)], .agg [.s (.int .i64 1), .s (.int .i64 2), .s (.int .i64 (-1)), .s (.int .i64 (-1)), .s (.slice none 0 0), .s (.slice none 0 0)]]) := by
  have := spCut_v prA
  rw [if_pos rightA, cutA] at this
  exact this
theorem alive_cut0 : spCut.fn [.agg [.s (.slice none 0 0), .s (.int .i64 0), .s (.slice none 0 0)]] = some (.s (.slice none 0 0)) := by kernel_rfl
theorem alive_lead : spLead.fn [.agg [.lst false 5 [.agg [.s (.int .i64 41), .s (.int .i64 0), .s (.int .i64 0), .s (.int .i64 0), .s (.int .i64 0)]], .s (.int .i64 0), .s (.slice none 0 0)]] = some (.lst true 1 [.s (.int .i64 0)]) := by
  have := spLead_v prH
  rw [if_pos rightH] at this
  exact this
def spTrueB : Spec := ⟨[], fun xs => match xs with
  | [] => some (.s (.bool true))
  | _ => none⟩
theorem spTrueB_mv : spTrueB.mv = [] := rfl
theorem spTrueB_fn : spTrueB.fn [] = some (.s (.bool true)) := rfl
set_option maxRecDepth 8000 in
set_option maxHeartbeats 2000000 in
theorem alive10_impl : Impl Try.prog 7 spTrueB := by
  refine impl_walk mixed cB5_ok eqT_ok Try.func7 rfl Try.ntmps7 (by kernel_rfl) ?_
  intro xs r h
  unfold spTrueB at h
  simp only at h
  (try split at h) <;> try (cases (show none = some r from h); done)
  cases h
  refine ⟨by simp, ?_⟩
  simp only [go_sem, seval, eq_self, reduceCtorEq, cB5_at, spCut_mv, spLead_mv, alive_cut, alive_cut0, alive_lead]
  repeat' ((first | (refine AG_of ?_ ?_ <;> intro h) | (refine AB_of ?_ ?_ <;> intro h) | (refine A_draw_of [] [] (by kernel_rfl) ?_ <;> have h := mark)) <;> simp only [go_sem, seval, eq_self, reduceCtorEq, cB5_at, spCut_mv, spLead_mv, alive_cut, alive_cut0, alive_lead, h])
  all_goals (first | refine fin_ret ?_ | refine fin_normal ?_)
  all_goals simp only [resOf, Try.results7, Try.ntmps7, go_sem, seval, eq_self, reduceCtorEq]

end Go.Proofs.Ytbmgaebhcomjaaa
