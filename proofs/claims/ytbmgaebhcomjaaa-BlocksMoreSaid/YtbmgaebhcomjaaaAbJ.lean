/-
From the plain reckoning to what a row asks for. No condition.
-/
import Derived.Test.YtbmgaebhcomjaaaAbF
namespace Go.Proofs.Ytbmgaebhcomjaaa
set_option linter.unusedSimpArgs false
set_option linter.unusedVariables false
open Go.RowKit

theorem RC.notown {w : World} {own fresh : Nat → Prop} {k : Bool} {u : Value} {x : V} (h : RC w own fresh k u x) : x.isOwn = false := by cases h <;> rfl
/-- arguments of which none is handed over -/
structure ArgsN (w : World) (vs : List Value) (xs : List V) : Prop where
  pw : PW (RC w (fun _ => False) (Fresh w fun _ => False) false) vs xs
theorem ArgsN.nil {w : World} : ArgsN w [] [] := ⟨PW.nil⟩
theorem ArgsN.cons {w : World} {u : Value} {us : List Value} {x : V} {xs : List V} (h : RC w (fun _ => False) (Fresh w fun _ => False) false u x) (k : ArgsN w us xs) : ArgsN w (u :: us) (x :: xs) := ⟨PW.cons h k.pw⟩
theorem ArgsN.s {w : World} {u : Value} {us : List Value} {xs : List V} (k : ArgsN w us xs) : ArgsN w (u :: us) (.s u :: xs) := .cons (.s _ _) k
theorem ArgsN.args {w : World} {us : List Value} {xs : List V} (k : ArgsN w us xs) : Args w (fun _ => False) us xs := by
  have no : ∀ (i : Nat) (x : V), xs[i]? = some x → x.isOwn = false := fun i x hx => by
    obtain ⟨u, _, hr⟩ := k.pw.get hx
    exact hr.notown
  refine ⟨k.pw.imp fun u x hr => ArgR.of hr hr.notown, fun i j x y h1 h2 hx hy => ?_, fun i x h1 hx => ?_⟩
  · rw [no i x h1] at hx; cases hx
  · rw [no i x h1] at hx; cases hx

/-- a law answers true and turns nothing that was -/
theorem impl_true {P : Program} {f : Nat} {sp : Spec} (h : Impl P f sp) {xs : List V} (hx : sp.fn xs = some (.s (.bool true))) {vs : Array Value} {w : World} (ha : ArgsN w vs.toList xs) :
    Calls P f vs w fun e w' => e = .returned (.bool true) ∧ Below w.heap.size w w' := by
  refine (h.2 xs _ hx vs w _ ha.args).mono fun e w' ⟨v, he, hf, hr⟩ => ?_
  have hv : v = .bool true := by
    have hr' : RC w' (fun _ => False) (Fresh w fun _ => False) true v (.s (.bool true)) := hr
    cases hr'; rfl
  exact ⟨by rw [he, hv], hf.os, hf.tape, hf.output, hf.size, fun k hk => hf.block k hk (fun h => h)⟩

open Classical in
/-- .. where the arguments may be seen in another form -/
theorem impl_walk2 {P : Program} {C : Orc} {E : EqT} (hm : P.follows .mixedOrders = true) (hC : ∀ g sp, C g = some sp → Impl P g sp) (hE : EqOk P E) {f : Nat} {fn : Func} {c : Code} {sp : Spec} {n : Nat} (hf : P.funcs[f]? = some fn) (hb : fn.body = some c)
    (hn : fn.ntmps = n) (hname : (fn.name == "runtime.NumGoroutine") = false)
    (h : ∀ xs r, sp.fn xs = some r → ∃ xs', (∀ w J vs, Args w J vs xs → Args w J vs xs') ∧ xs'.length ≤ n ∧ A ⟨P, C, E, n⟩ c (.fn (Fin P fn xs' r)) (init xs')) : Impl P f sp := by
  refine ⟨⟨fn, hf, hname, by rw [hb]; rfl⟩, fun xs r hx vs w J ha => ?_⟩
  obtain ⟨xs', h1, h2, h3⟩ := h xs r hx
  have : Impl P f ⟨[], fun ys => if ys = xs' then some r else none⟩ := impl_walk hm hC hE hf hb hn hname fun ys r' hy => by
    simp only at hy
    split at hy
    · rename_i e
      subst e
      simp only [Option.some.injEq] at hy
      subst hy
      exact ⟨h2, h3⟩
    · cases hy
  exact this.2 xs' r (by simp) vs w J (h1 w J vs.toList ha)

/-- a value that is read may be seen in another form -/
def Sees (x y : V) : Prop := x = y ∨ (x.isOwn = false ∧ y.isOwn = false ∧ ∀ (w : World) (own fresh : Nat → Prop) (u : Value), RC w own fresh false u x → RC w own fresh false u y)
theorem Sees.same {x : V} : Sees x x := .inl rfl
theorem Sees.rc {x y : V} (h : Sees x y) {w : World} {own fresh : Nat → Prop} {u : Value} (k : RC w own fresh false u x) : RC w own fresh false u y := by
  rcases h with rfl | ⟨_, _, h⟩
  · exact k
  · exact h _ _ _ _ k
inductive SeesL : List V → List V → Prop
  | nil : SeesL [] []
  | cons {x y : V} {xs ys : List V} (h : Sees x y) (k : SeesL xs ys) : SeesL (x :: xs) (y :: ys)
theorem SeesL.same : ∀ {xs : List V}, SeesL xs xs
  | [] => .nil
  | _ :: _ => .cons .same .same
theorem SeesL.len {xs ys : List V} (h : SeesL xs ys) : xs.length = ys.length := by
  induction h with
  | nil => rfl
  | cons _ _ ih => simp [ih]
theorem SeesL.get {xs ys : List V} (h : SeesL xs ys) : ∀ {i : Nat} {y : V}, ys[i]? = some y → ∃ x, xs[i]? = some x ∧ Sees x y := by
  induction h with
  | nil => intro i y hy; simp at hy
  | cons h k ih =>
    intro i y hy
    cases i with
    | zero => simp at hy; subst hy; exact ⟨_, by simp, h⟩
    | succ i => obtain ⟨x, hx, hs⟩ := ih (by simpa using hy); exact ⟨x, by simpa using hx, hs⟩
theorem Sees.isOwn {x y : V} (h : Sees x y) : x.isOwn = y.isOwn := by
  rcases h with rfl | ⟨h1, h2, _⟩
  · exact rfl
  · rw [h1, h2]
theorem SeesL.pw {w : World} {own fresh : Nat → Prop} {us : List Value} {xs ys : List V} (h : SeesL xs ys) (k : PW (RC w own fresh false) us xs) : PW (RC w own fresh false) us ys :=
  ⟨k.1.trans h.len, fun i u y hu hy => by obtain ⟨x, hx, hs⟩ := h.get hy; exact hs.rc (k.2 i u x hu hx)⟩
/-- arguments in another form -/
theorem SeesL.args {xs ys : List V} (h : SeesL xs ys) (w : World) (J : Nat → Prop) (vs : List Value) (k : Args w J vs xs) : Args w J vs ys := by
  refine ⟨⟨k.pw.1.trans h.len, fun i u y hu hy => ?_⟩, fun i j a b h1 h2 ha hb => ?_, fun i a h1 ha => ?_⟩
  · obtain ⟨x, hx, hs⟩ := h.get hy
    have hr := k.pw.2 i u x hu hx
    rcases hs with rfl | ⟨h1, h2, h3⟩
    · exact hr
    · refine ArgR.of (h3 _ _ _ _ ?_) h2
      cases x <;> first | exact hr | (simp [V.isOwn] at h1)
  · obtain ⟨x, hx, hs⟩ := h.get h1
    obtain ⟨y, hy, hs'⟩ := h.get h2
    exact k.one i j x y hx hy (by rw [hs.isOwn]; exact ha) (by rw [hs'.isOwn]; exact hb)
  · obtain ⟨x, hx, hs⟩ := h.get h1
    obtain ⟨h3, h4⟩ := k.small i x hx (by rw [hs.isOwn]; exact ha)
    refine ⟨h3, fun cs hcs => ?_⟩
    rcases hs with rfl | ⟨_, h6, _⟩
    · exact h4 cs hcs
    · rw [h6] at ha; cases ha
theorem Sees.agg {l m : List V} (h : SeesL l m) : Sees (.agg l) (.agg m) := .inr ⟨rfl, rfl, fun w own fresh u hr => by
  cases hr with
  | agg k us l hl he =>
    have := h.pw ⟨hl, he⟩
    exact .agg _ us m this.1 this.2⟩
theorem ArgsN.sees {w : World} {us : List Value} {xs ys : List V} (k : ArgsN w us xs) (h : SeesL xs ys) : ArgsN w us ys := ⟨h.pw k.pw⟩
end Go.Proofs.Ytbmgaebhcomjaaa
