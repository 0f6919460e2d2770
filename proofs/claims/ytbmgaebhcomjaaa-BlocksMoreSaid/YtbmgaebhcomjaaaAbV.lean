/-
The plain reckoning step by step, in a form that is not taken apart but where a rule says so. No condition.
-/
import Derived.Test.YtbmgaebhcomjaaaAbE
namespace Go.Proofs.Ytbmgaebhcomjaaa
set_option linter.unusedSimpArgs false
set_option linter.unusedVariables false

/-- a sign without meaning -/
inductive Mark : Prop | mk
theorem mark : Mark := .mk

/-- program, known functions, types held by numbers, places of the frame -/
structure Gm where
  P : Program
  C : Orc
  E : EqT
  n : Nat

/-- what is still to be done -/
inductive Kont where
  | fn (K : Ex → S → Prop)
  | seq (y : Code) (k : Kont)
  | blk (id : Nat) (k : Kont)
  | inv (I : S → Prop) (m : Nat) (μ : S → Nat) (k : Kont)
  | inv2 (M : S → Prop) (k : Kont)

def den (G : Gm) : Kont → Ex → S → Prop
  | .fn K => K
  | .seq y k => Kseq (den G k) (awp G.P G.C G.E G.n y (den G k))
  | .blk id k => Kblock id (den G k)
  | .inv I m μ k => Kseq (den G k) (fun s' => I s' ∧ μ s' < m)
  | .inv2 M k => Kseq (den G k) M

/-- how a region is reckoned: in the text's order, or it draws its order, and these blocks may turn at these places -/
inductive Dr where
  | no
  | draws (B T : List Nat)
def opsX (G : Gm) (d : Dr) (ops : List Oper) (K : S → Prop) (r : List Oper) (s : S) : Prop :=
  match d with
  | .draws B T => awpOpsD G.P G.C G.E G.n B T ops K r s
  | .no => awpOps G.P G.C G.E G.n ops K r s
def stepX (G : Gm) (d : Dr) (o : Oper) (r : List Oper) (s : S) : Option S :=
  match d, r with
  | .draws B T, _ :: _ => stepD G.P G.C G.E G.n B T o s
  | _, _ => stepV G.P G.C G.E G.n o s

inductive A (G : Gm) (c : Code) (k : Kont) (s : S) : Prop
  | mk (h : awp G.P G.C G.E G.n c (den G k) s)
inductive AK (G : Gm) (k : Kont) (e : Ex) (s : S) : Prop
  | mk (h : den G k e s)
inductive AO (G : Gm) (d : Dr) (ops : List Oper) (k : Kont) (r : List Oper) (s : S) : Prop
  | mk (h : opsX G d ops (den G k .normal) r s)
inductive AS (G : Gm) (d : Dr) (ops : List Oper) (k : Kont) (x : Option S) (r : List Oper) : Prop
  | mk (s : S) (hx : x = some s) (h : opsX G d ops (den G k .normal) r s)
inductive AG (G : Gm) (d : Dr) (ops : List Oper) (k : Kont) (g : Option (Option (Bool × Bool))) (o : Oper) (r : List Oper) (s : S) : Prop
  | mk (h : onG g (thenS (stepX G d o r s) (opsX G d ops (den G k .normal) r)) (thenS (passV G.n o s) (opsX G d ops (den G k .normal) r)))
inductive AB (G : Gm) (b : Option Bool) (x y : Code) (k : Kont) (s : S) : Prop
  | mk (h : onB b (awp G.P G.C G.E G.n x (den G k) s) (awp G.P G.C G.E G.n y (den G k) s))

section
variable {G : Gm} {k : Kont} {s : S}
theorem A_skip : A G .skip k s = AK G k .normal s := propext ⟨fun ⟨h⟩ => ⟨h⟩, fun ⟨h⟩ => ⟨h⟩⟩
theorem A_label {l : Nat} : A G (.label l) k s = AK G k .normal s := propext ⟨fun ⟨h⟩ => ⟨h⟩, fun ⟨h⟩ => ⟨h⟩⟩
theorem A_exit {id : Nat} : A G (.exit id) k s = AK G k (.exit id) s := propext ⟨fun ⟨h⟩ => ⟨h⟩, fun ⟨h⟩ => ⟨h⟩⟩
theorem A_ret : A G .ret k s = AK G k .ret s := propext ⟨fun ⟨h⟩ => ⟨h⟩, fun ⟨h⟩ => ⟨h⟩⟩
theorem A_seq {x y : Code} : A G (.seq x y) k s = A G x (.seq y k) s := propext ⟨fun ⟨h⟩ => ⟨h⟩, fun ⟨h⟩ => ⟨h⟩⟩
theorem A_block {id : Nat} {c : Code} : A G (.block id c) k s = A G c (.blk id k) s := propext ⟨fun ⟨h⟩ => ⟨h⟩, fun ⟨h⟩ => ⟨h⟩⟩
theorem A_region {id : Nat} {ops : Array Oper} : A G (.region id ops false) k s = AO G .no ops.toList k ops.toList s := propext ⟨fun ⟨h⟩ => ⟨h⟩, fun ⟨h⟩ => ⟨h⟩⟩
theorem A_draw_of {id : Nat} {ops : Array Oper} (B T : List Nat) (h : drawOk T ops = true) (h2 : AO G (.draws B T) ops.toList k ops.toList s) : A G (.region id ops true) k s := by
  obtain ⟨h2⟩ := h2
  exact ⟨⟨B, T, h, h2⟩⟩
theorem A_cond {c : Operand} {x y : Code} : A G (.cond c x y) k s = AB G (asB (ev s.env c)) x y k s := propext ⟨fun ⟨h⟩ => ⟨h⟩, fun ⟨h⟩ => ⟨h⟩⟩
/-- .. where at each round's beginning what stands in memory may be seen in another form -/
theorem A_loopG {c : Code} (I : S → Prop) (μ : S → Nat) (h0 : I s) (h : ∀ s, I s → ∃ s', Gh s s' ∧ A G c (.inv I (μ s) μ k) s') : A G (.loop c) k s := ⟨loop_invG I μ (fun s hs => by obtain ⟨s', h1, h2⟩ := h s hs; exact ⟨s', h1, h2.1⟩) h0⟩
theorem A_loop {c : Code} (I : S → Prop) (μ : S → Nat) (h0 : I s) (h : ∀ s, I s → A G c (.inv I (μ s) μ k) s) : A G (.loop c) k s := ⟨loop_inv I μ (fun s hs => (h s hs).1) h0⟩
/-- .. or round by round -/
theorem A_round {c : Code} (h : A G c (.seq (.loop c) k) s) : A G (.loop c) k s := ⟨loop_round h.1⟩
/-- cut: what holds before the second part is all that it needs -/
theorem A_cut {x y : Code} (M : S → Prop) (h1 : A G x (.inv2 M k) s) (h2 : ∀ s, M s → A G y k s) : A G (.seq x y) k s := by
  obtain ⟨h1⟩ := h1
  exact ⟨awp_mono x (Kseq_mono (fun _ _ h => h) fun s hs => (h2 s hs).1) s h1⟩

theorem AK_fn {K : Ex → S → Prop} {e : Ex} : AK G (.fn K) e s = K e s := propext ⟨fun ⟨h⟩ => h, fun h => ⟨h⟩⟩
theorem AK_seq_normal {y : Code} : AK G (.seq y k) .normal s = A G y k s := propext ⟨fun ⟨h⟩ => ⟨h⟩, fun ⟨h⟩ => ⟨h⟩⟩
theorem AK_seq_exit {y : Code} {id : Nat} : AK G (.seq y k) (.exit id) s = AK G k (.exit id) s := propext ⟨fun ⟨h⟩ => ⟨h⟩, fun ⟨h⟩ => ⟨h⟩⟩
theorem AK_seq_ret {y : Code} : AK G (.seq y k) .ret s = AK G k .ret s := propext ⟨fun ⟨h⟩ => ⟨h⟩, fun ⟨h⟩ => ⟨h⟩⟩
theorem AK_blk_normal {id : Nat} : AK G (.blk id k) .normal s = AK G k .normal s := propext ⟨fun ⟨h⟩ => ⟨h⟩, fun ⟨h⟩ => ⟨h⟩⟩
theorem AK_blk_ret {id : Nat} : AK G (.blk id k) .ret s = AK G k .ret s := propext ⟨fun ⟨h⟩ => ⟨h⟩, fun ⟨h⟩ => ⟨h⟩⟩
theorem AK_blk_exit {id i : Nat} : AK G (.blk id k) (.exit i) s = if i = id then AK G k .normal s else AK G k (.exit i) s := propext (by
  by_cases h : i = id
  · rw [if_pos h]; exact ⟨fun ⟨q⟩ => ⟨by simpa [den, Kblock, h] using q⟩, fun ⟨q⟩ => ⟨by simpa [den, Kblock, h] using q⟩⟩
  · rw [if_neg h]; exact ⟨fun ⟨q⟩ => ⟨by simpa [den, Kblock, h] using q⟩, fun ⟨q⟩ => ⟨by simpa [den, Kblock, h] using q⟩⟩)
theorem AK_inv_normal {I : S → Prop} {m : Nat} {μ : S → Nat} : AK G (.inv I m μ k) .normal s = (I s ∧ μ s < m) := propext ⟨fun ⟨h⟩ => h, fun h => ⟨h⟩⟩
theorem AK_inv_exit {I : S → Prop} {m : Nat} {μ : S → Nat} {id : Nat} : AK G (.inv I m μ k) (.exit id) s = AK G k (.exit id) s := propext ⟨fun ⟨h⟩ => ⟨h⟩, fun ⟨h⟩ => ⟨h⟩⟩
theorem AK_inv_ret {I : S → Prop} {m : Nat} {μ : S → Nat} : AK G (.inv I m μ k) .ret s = AK G k .ret s := propext ⟨fun ⟨h⟩ => ⟨h⟩, fun ⟨h⟩ => ⟨h⟩⟩
theorem AK_inv2_normal {M : S → Prop} : AK G (.inv2 M k) .normal s = M s := propext ⟨fun ⟨h⟩ => h, fun h => ⟨h⟩⟩
theorem AK_inv2_exit {M : S → Prop} {id : Nat} : AK G (.inv2 M k) (.exit id) s = AK G k (.exit id) s := propext ⟨fun ⟨h⟩ => ⟨h⟩, fun ⟨h⟩ => ⟨h⟩⟩
theorem AK_inv2_ret {M : S → Prop} : AK G (.inv2 M k) .ret s = AK G k .ret s := propext ⟨fun ⟨h⟩ => ⟨h⟩, fun ⟨h⟩ => ⟨h⟩⟩

variable {d : Dr} {ops r : List Oper} {o : Oper}
theorem AO_nil : AO G d ops k [] s = AK G k .normal s := by cases d <;> exact propext ⟨fun ⟨h⟩ => ⟨h⟩, fun ⟨h⟩ => ⟨h⟩⟩
theorem AO_cons : AO G d ops k (o :: r) s = AG G d ops k (wants ops s.env o) o r s := by cases d <;> cases r <;> exact propext ⟨fun ⟨h⟩ => ⟨h⟩, fun ⟨h⟩ => ⟨h⟩⟩
theorem AS_some : AS G d ops k (some s) r = AO G d ops k r s := propext ⟨fun ⟨_, hx, h⟩ => (by cases hx; exact ⟨h⟩), fun ⟨h⟩ => ⟨s, rfl, h⟩⟩
theorem AS_none : AS G d ops k none r = False := propext ⟨fun ⟨_, hx, _⟩ => (by cases hx), fun h => h.elim⟩
theorem AS_of {x : Option S} (h : thenS x (opsX G d ops (den G k .normal) r)) : AS G d ops k x r := by
  cases x with
  | none => exact h.elim
  | some s => exact ⟨s, rfl, h⟩
theorem AS_to {x : Option S} (h : AS G d ops k x r) : thenS x (opsX G d ops (den G k .normal) r) := by
  obtain ⟨s, rfl, h⟩ := h; exact h
theorem AG_any : AG G d ops k (some none) o r s = AS G d ops k (stepX G d o r s) r := propext ⟨fun ⟨h⟩ => AS_of h, fun h => ⟨AS_to h⟩⟩
theorem AG_tt : AG G d ops k (some (some (true, true))) o r s = AS G d ops k (stepX G d o r s) r := propext ⟨fun ⟨h⟩ => AS_of (by simpa using h), fun h => ⟨by simpa using AS_to h⟩⟩
theorem AG_ff : AG G d ops k (some (some (false, false))) o r s = AS G d ops k (stepX G d o r s) r := propext ⟨fun ⟨h⟩ => AS_of (by simpa using h), fun h => ⟨by simpa using AS_to h⟩⟩
theorem AG_tf : AG G d ops k (some (some (true, false))) o r s = AS G d ops k (passV G.n o s) r := propext ⟨fun ⟨h⟩ => AS_of (by simpa using h), fun h => ⟨by simpa using AS_to h⟩⟩
theorem AG_ft : AG G d ops k (some (some (false, true))) o r s = AS G d ops k (passV G.n o s) r := propext ⟨fun ⟨h⟩ => AS_of (by simpa using h), fun h => ⟨by simpa using AS_to h⟩⟩
theorem AG_none : AG G d ops k none o r s = False := propext ⟨fun ⟨h⟩ => h, fun h => h.elim⟩
/-- .. where it is not known whether it is wanted -/
theorem AG_of {b c : Bool} (h1 : b = c → AS G d ops k (stepX G d o r s) r) (h2 : b = !c → AS G d ops k (passV G.n o s) r) : AG G d ops k (some (some (b, c))) o r s := by
  cases b <;> cases c
  · rw [AG_ff]; exact h1 rfl
  · rw [AG_ft]; exact h2 rfl
  · rw [AG_tf]; exact h2 rfl
  · rw [AG_tt]; exact h1 rfl
theorem AB_true {x y : Code} : AB G (some true) x y k s = A G x k s := propext ⟨fun ⟨h⟩ => ⟨by simpa using h⟩, fun ⟨h⟩ => ⟨by simpa using h⟩⟩
theorem AB_false {x y : Code} : AB G (some false) x y k s = A G y k s := propext ⟨fun ⟨h⟩ => ⟨by simpa using h⟩, fun ⟨h⟩ => ⟨by simpa using h⟩⟩
theorem AB_of {b : Bool} {x y : Code} (h1 : b = true → A G x k s) (h2 : b = false → A G y k s) : AB G (some b) x y k s := by
  cases b
  · rw [AB_false]; exact h2 rfl
  · rw [AB_true]; exact h1 rfl
end

theorem stepX_d {G : Gm} {B T : List Nat} {o o' : Oper} {r : List Oper} {s : S} : stepX G (.draws B T) o (o' :: r) s = stepD G.P G.C G.E G.n B T o s := rfl
theorem stepX_l {G : Gm} {d : Dr} {o : Oper} {s : S} : stepX G d o [] s = stepV G.P G.C G.E G.n o s := by cases d <;> rfl
theorem stepX_v {G : Gm} {o : Oper} {r : List Oper} {s : S} : stepX G .no o r s = stepV G.P G.C G.E G.n o s := by cases r <;> rfl

/-- a function's answer, by the walk -/
theorem impl_walk {P : Program} {C : Orc} {E : EqT} (hm : P.follows .mixedOrders = true) (hC : ∀ g sp, C g = some sp → Impl P g sp) (hE : EqOk P E) {f : Nat} {fn : Func} {c : Code} {sp : Spec} {n : Nat} (hf : P.funcs[f]? = some fn) (hb : fn.body = some c)
    (hn : fn.ntmps = n) (hname : (fn.name == "runtime.NumGoroutine") = false)
    (h : ∀ xs r, sp.fn xs = some r → xs.length ≤ n ∧ A ⟨P, C, E, n⟩ c (.fn (Fin P fn xs r)) (init xs)) : Impl P f sp := by
  subst hn
  exact impl_of hm hC hE hf hb hname fun xs r hr => ⟨(h xs r hr).1, (h xs r hr).2.1⟩

end Go.Proofs.Ytbmgaebhcomjaaa
