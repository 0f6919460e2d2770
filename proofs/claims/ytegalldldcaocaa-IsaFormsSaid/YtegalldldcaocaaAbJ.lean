/-
From the plain reckoning to what a row asks for. No condition.
-/
import Derived.Test.YtegalldldcaocaaAbF
namespace Go.Proofs.Ytegalldldcaocaa
open Go.RowKit

theorem Args.nil {w : World} {J : Nat → Prop} : Args w J [] [] := ⟨PW.nil, fun i j sz e l sz' e' l' h => by simp at h⟩
theorem Args.cons {w : World} {u : Value} {us : List Value} {x : V} {xs : List V} (h : RC w (fun _ => False) (Fresh w fun _ => False) false u x) (k : Args w (fun _ => False) us xs) : Args w (fun _ => False) (u :: us) (x :: xs) := by
  have no : ∀ {w : World} {own fresh : Nat → Prop} {k : Bool} {u : Value} {sz e l}, ¬ RC w own fresh k u (.own sz e l) := fun h => by cases h
  refine ⟨PW.cons ?_ k.pw, fun i j sz e l sz' e' l' h1 h2 => ?_⟩
  · cases x <;> first | exact h | exact absurd h no
  · cases i with
    | zero => simp at h1; subst h1; exact absurd h no
    | succ i => cases j with
      | zero => simp at h2; subst h2; exact absurd h no
      | succ j => rw [k.one i j sz e l sz' e' l' (by simpa using h1) (by simpa using h2)]
theorem Args.s {w : World} {u : Value} {us : List Value} {xs : List V} (k : Args w (fun _ => False) us xs) : Args w (fun _ => False) (u :: us) (.s u :: xs) := .cons (.s _ _) k

/-- a law answers true and turns nothing that was -/
theorem impl_true {P : Program} {f : Nat} {sp : Spec} (h : Impl P f sp) {xs : List V} (hx : sp.fn xs = some (.s (.bool true))) {vs : Array Value} {w : World} (ha : Args w (fun _ => False) vs.toList xs) :
    Calls P f vs w fun e w' => e = .returned (.bool true) ∧ Below w.heap.size w w' := by
  refine (h.2 xs _ hx vs w _ ha).mono fun e w' ⟨v, he, hf, hr⟩ => ?_
  have hv : v = .bool true := by
    have hr' : RC w' (fun _ => False) (Fresh w fun _ => False) true v (.s (.bool true)) := hr
    cases hr'; rfl
  exact ⟨by rw [he, hv], hf.os, hf.tape, hf.output, hf.size, fun k hk => hf.block k hk (fun h => h)⟩
end Go.Proofs.Ytegalldldcaocaa
