/-
What a function answers, a row or nothing, as a list that is read. No condition.
-/
import Derived.Test.YtkfmecmmbnehjaaGreatO3
namespace Go.Proofs.YtkfmecmmbnehjaaGreat
set_option linter.unusedSimpArgs false
set_option linter.unusedVariables false

def asLst : V → V
  | .own sz _ l => .lst true sz l
  | r => r
theorem impl_lst {P : Program} {f : Nat} {sp : Spec} (h : Impl P f sp) : Impl P f ⟨sp.mv, fun xs => (sp.fn xs).map asLst⟩ := by
  refine ⟨h.1, fun xs r hr vs w J ha => ?_⟩
  obtain ⟨r0, h0, rfl⟩ := Option.map_eq_some_iff.1 hr
  refine (h.2 xs r0 h0 vs w J ha).mono fun e w' ⟨v, he, hf, hres⟩ => ⟨v, he, hf, ?_⟩
  cases r0 with
  | own sz e2 l =>
    obtain ⟨hrow, hfr⟩ := hres
    obtain ⟨A, cp, us, rfl, h1, h2, h3, h4, h5⟩ := RowR.elems hrow
    have h3' := h3.imp fun u x hr => hr.refresh (own' := fun _ => False) (fresh' := Fresh w J) rfl fun g _ hf => ⟨fun h => h, hf⟩
    show RC w' (fun _ => False) (Fresh w J) true _ (.lst true sz l)
    refine .lst _ true sz l A cp us h1 h2 h3'.1 h3'.2 h4 ?_
    rcases h5 with h5 | ⟨g, o, rfl, h7⟩
    · exact .inl h5
    · exact .inr ⟨g, o, rfl, fun h => h, fun _ => hfr g rfl, h7⟩
  | _ => exact hres
/-- a row, or nothing, as a list that is read -/
def asLst0 (sz : Nat) : V → V
  | .own sz' e l => if sz' = sz then .lst true sz l else .own sz' e l
  | .s (.slice none 0 0) => .lst true sz []
  | r => r
theorem impl_lst0 {P : Program} {f : Nat} {sp : Spec} (sz : Nat) (h : Impl P f sp) : Impl P f ⟨sp.mv, fun xs => (sp.fn xs).map (asLst0 sz)⟩ := by
  refine ⟨h.1, fun xs r hr vs w J ha => ?_⟩
  obtain ⟨r0, h0, rfl⟩ := Option.map_eq_some_iff.1 hr
  by_cases c : ∃ e l, r0 = .own sz e l
  · obtain ⟨e, l, rfl⟩ := c
    have := (impl_lst h).2 xs (.lst true sz l) (by simp only [h0, Option.map_some]; rfl) vs w J ha
    simpa only [asLst0, if_true] using this
  by_cases c2 : r0 = .s (.slice none 0 0)
  · subst c2
    refine (h.2 xs _ h0 vs w J ha).mono fun e w' ⟨v, he, hf, hres⟩ => ⟨v, he, hf, ?_⟩
    have hres' : RC w' (fun _ => False) (Fresh w J) true v (.s (.slice none 0 0)) := hres
    cases hres'
    show RC w' (fun _ => False) (Fresh w J) true _ (.lst true sz [])
    exact .lst true true sz [] none 0 [] (Nat.le_refl _) (fun x hx => by cases hx) rfl (fun i u x hu _ => by simp at hu) (fun u hu => by cases hu) (.inl rfl)
  · have e : asLst0 sz r0 = r0 := by
      unfold asLst0
      split
      · rename_i sz' e l
        rw [if_neg (fun q => c ⟨e, l, by rw [q]⟩)]
      · exact absurd rfl c2
      · rfl
    rw [e]
    exact h.2 xs r0 h0 vs w J ha
end Go.Proofs.YtkfmecmmbnehjaaGreat
