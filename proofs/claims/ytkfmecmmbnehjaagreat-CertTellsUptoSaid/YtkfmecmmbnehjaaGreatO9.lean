/-
The owners with the fewest on A: owner.Of by the plain reckoning. No condition.
-/
import Derived.Test.YtkfmecmmbnehjaaGreatO8
namespace Go.Proofs.YtkfmecmmbnehjaaGreat
set_option linter.unusedSimpArgs false
set_option linter.unusedVariables false

theorem one_iv (o : List Int) : (o.map iv).all V.one = true := by
  rw [List.all_eq_true]; intro x hx; obtain ⟨b, _, rfl⟩ := List.mem_map.1 hx; rfl
attribute [go_sem high] one_iv
def spOf : Spec := ⟨[], fun xs => match xs with
  | [x] => (prgOf x).bind fun p => if p.code.length ≤ 1000000000 then some (ownV (ofO p)) else none
  | _ => none⟩
def cOf : Orc := cGive
theorem cOf_ok : ∀ g sp, cOf g = some sp → Impl Tryz.prog g sp := cGive_ok
/-- what stands all the time -/
def ofB (p : Prg) (s : S) : Prop :=
  s.env 1 = .ptr 1 1 0 ∧ s.st 1 = ⟨1, .box [.lst false 5 (p.code.map Ins.v), .s (.int .i64 p.size), .lst false 1 (p.data.map u8v)]⟩ ∧ s.env 2 = .ptr 2 1 0 ∧ s.st 2 = ⟨1, .box (zeroO.map iv)⟩ ∧ s.env 3 = .ptr 3 1 0
def ofI1 (p : Prg) (s : S) : Prop := ofB p s ∧ ∃ k : Nat, s.env 4 = .s (.int .i64 (k + 1 : Nat)) ∧ k ≤ 15 ∧ s.st 3 = ⟨1, .box ((initO k).map iv)⟩
end Go.Proofs.YtkfmecmmbnehjaaGreat
