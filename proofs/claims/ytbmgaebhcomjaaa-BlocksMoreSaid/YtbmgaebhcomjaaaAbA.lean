/-
The plain reckoning of a function's whole text. Definitions, and what may be seen in another form. No condition.
-/
import Derived.Test.YtbmgaebhcomjaaaAbS
namespace Go.Proofs.Ytbmgaebhcomjaaa
set_option linter.unusedSimpArgs false
set_option linter.unusedVariables false

/-- what stands in memory may be seen so, too -/
def Gh (s s' : S) : Prop := ∀ (w0 : World) (I : Ow) (n : Nat) (a : Act) (w : World) (η : Nat → Value), Rel w0 I n s a w η → Rel w0 I n s' a w η
theorem Gh.refl (s : S) : Gh s s := fun _ _ _ _ _ _ h => h
theorem Gh.trans {s s' s'' : S} (h : Gh s s') (k : Gh s' s'') : Gh s s'' := fun w0 I n a w η hr => k w0 I n a w η (h w0 I n a w η hr)

def awp (P : Program) (C : Orc) (E : EqT) (n : Nat) : Code → (Ex → S → Prop) → S → Prop
  | .skip, K, s => K .normal s
  | .label _, K, s => K .normal s
  | .region _ ops false, K, s => awpOps P C E n ops.toList (K .normal) ops.toList s
  | .region _ ops true, K, s => ∃ B T, drawOk T ops = true ∧ awpOpsD P C E n B T ops.toList (K .normal) ops.toList s
  | .seq x y, K, s => awp P C E n x (Kseq K (awp P C E n y K)) s
  | .cond c x y, K, s => onB (asB (ev s.env c)) (awp P C E n x K s) (awp P C E n y K s)
  | .block id c, K, s => awp P C E n c (Kblock id K) s
  | .loop c, K, s => ∀ Z : S → Prop, (∀ s s', Gh s s' → awp P C E n c (Kseq K Z) s' → Z s) → Z s
  | .exit id, K, s => K (.exit id) s
  | .ret, K, s => K .ret s
  | _, _, _ => False
@[congr] theorem awp_congr {P : Program} {C : Orc} {E : EqT} {n : Nat} {c : Code} {K : Ex → S → Prop} {s s' : S} (h : s = s') : awp P C E n c K s = awp P C E n c K s' := by rw [h]

end Go.Proofs.Ytbmgaebhcomjaaa
