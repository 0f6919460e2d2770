/-
Arguments as they come in: what is read of a value whose type is made of numbers, truths, texts, structs, arrays and slices. No condition.
-/
import Derived.Test.YtkfmecmmbnehjaaGreatAbE
import Derived.OpenShut
import Derived.ShutString
import Derived.ChangeOld
/-
The plain reckoning step by step, in a form that is not taken apart but where a rule says so. No condition.
-/
namespace Go.Proofs.YtkfmecmmbnehjaaGreat
set_option linter.unusedSimpArgs false
set_option linter.unusedVariables false

/-- a sign without meaning -/
inductive Mark : Prop | mk
theorem mark : Mark := .mk

/-- program, known functions, types held by numbers, places of the frame -/
structure Gm where
  P : Program
  C : Orc
  E : EqT
  n : Nat

/-- what is still to be done -/
inductive Kont where
  | fn (K : Ex → S → Prop)
  | seq (y : Code) (k : Kont)
  | blk (id : Nat) (k : Kont)
  | inv (I : S → Prop) (m : Nat) (μ : S → Nat) (k : Kont)
  | inv2 (M : S → Prop) (k : Kont)

def den (G : Gm) : Kont → Ex → S → Prop
  | .fn K => K
  | .seq y k => Kseq (den G k) (awp G.P G.C G.E G.n y (den G k))
  | .blk id k => Kblock id (den G k)
  | .inv I m μ k => Kseq (den G k) (fun s' => I s' ∧ μ s' < m)
  | .inv2 M k => Kseq (den G k) M

/-- how a region is reckoned: in the text's order, or it draws its order, and these blocks may turn at these places -/
inductive Dr where
  | no
  | draws (B T : List Nat)
def opsX (G : Gm) (d : Dr) (ops : List Oper) (K : S → Prop) (r : List Oper) (s : S) : Prop :=
  match d with
  | .draws B T => awpOpsD G.P G.C G.E G.n B T ops K r s
  | .no => awpOps G.P G.C G.E G.n ops K r s
def stepX (G : Gm) (d : Dr) (o : Oper) (r : List Oper) (s : S) : Option S :=
  match d, r with
  | .draws B T, _ :: _ => stepD G.P G.C G.E G.n B T o s
  | .draws B T, [] => stepL G.P G.C G.E G.n B T o s
  | _, _ => stepV G.P G.C G.E G.n o s

inductive A (G : Gm) (c : Code) (k : Kont) (s : S) : Prop
  | mk (h : awp G.P G.C G.E G.n c (den G k) s)
inductive AK (G : Gm) (k : Kont) (e : Ex) (s : S) : Prop
  | mk (h : den G k e s)
inductive AO (G : Gm) (d : Dr) (ops : List Oper) (k : Kont) (r : List Oper) (s : S) : Prop
  | mk (h : opsX G d ops (den G k .normal) r s)
inductive AS (G : Gm) (d : Dr) (ops : List Oper) (k : Kont) (x : Option S) (r : List Oper) : Prop
  | mk (s : S) (hx : x = some s) (h : opsX G d ops (den G k .normal) r s)
inductive AG (G : Gm) (d : Dr) (ops : List Oper) (k : Kont) (g : Option (Option (Bool × Bool))) (o : Oper) (r : List Oper) (s : S) : Prop
  | mk (h : onG g (thenS (stepX G d o r s) (opsX G d ops (den G k .normal) r)) (thenS (passV G.n o s) (opsX G d ops (den G k .normal) r)))
inductive AB (G : Gm) (b : Option Bool) (x y : Code) (k : Kont) (s : S) : Prop
  | mk (h : onB b (awp G.P G.C G.E G.n x (den G k) s) (awp G.P G.C G.E G.n y (den G k) s))

section
variable {G : Gm} {k : Kont} {s : S}
theorem A_skip : A G .skip k s = AK G k .normal s := propext ⟨fun ⟨h⟩ => ⟨h⟩, fun ⟨h⟩ => ⟨h⟩⟩
theorem A_label {l : Nat} : A G (.label l) k s = AK G k .normal s := propext ⟨fun ⟨h⟩ => ⟨h⟩, fun ⟨h⟩ => ⟨h⟩⟩
theorem A_exit {id : Nat} : A G (.exit id) k s = AK G k (.exit id) s := propext ⟨fun ⟨h⟩ => ⟨h⟩, fun ⟨h⟩ => ⟨h⟩⟩
theorem A_ret : A G .ret k s = AK G k .ret s := propext ⟨fun ⟨h⟩ => ⟨h⟩, fun ⟨h⟩ => ⟨h⟩⟩
theorem A_seq {x y : Code} : A G (.seq x y) k s = A G x (.seq y k) s := propext ⟨fun ⟨h⟩ => ⟨h⟩, fun ⟨h⟩ => ⟨h⟩⟩
theorem A_block {id : Nat} {c : Code} : A G (.block id c) k s = A G c (.blk id k) s := propext ⟨fun ⟨h⟩ => ⟨h⟩, fun ⟨h⟩ => ⟨h⟩⟩
theorem A_region {id : Nat} {ops : Array Oper} : A G (.region id ops false) k s = AO G .no ops.toList k ops.toList s := propext ⟨fun ⟨h⟩ => ⟨h⟩, fun ⟨h⟩ => ⟨h⟩⟩
theorem A_draw_of {id : Nat} {ops : Array Oper} (B T : List Nat) (h : drawOk T ops = true) (h2 : AO G (.draws B T) ops.toList k ops.toList s) : A G (.region id ops true) k s := by
  obtain ⟨h2⟩ := h2
  exact ⟨⟨B, T, h, h2⟩⟩
theorem A_cond {c : Operand} {x y : Code} : A G (.cond c x y) k s = AB G (asB (ev s.env c)) x y k s := propext ⟨fun ⟨h⟩ => ⟨h⟩, fun ⟨h⟩ => ⟨h⟩⟩
/-- .. where at each round's beginning what stands in memory may be seen in another form -/
theorem A_loopG {c : Code} (I : S → Prop) (μ : S → Nat) (h0 : I s) (h : ∀ s, I s → ∃ s', Gh s s' ∧ A G c (.inv I (μ s) μ k) s') : A G (.loop c) k s := ⟨loop_invG I μ (fun s hs => by obtain ⟨s', h1, h2⟩ := h s hs; exact ⟨s', h1, h2.1⟩) h0⟩
theorem A_loop {c : Code} (I : S → Prop) (μ : S → Nat) (h0 : I s) (h : ∀ s, I s → A G c (.inv I (μ s) μ k) s) : A G (.loop c) k s := ⟨loop_inv I μ (fun s hs => (h s hs).1) h0⟩
/-- .. or round by round -/
theorem A_round {c : Code} (h : A G c (.seq (.loop c) k) s) : A G (.loop c) k s := ⟨loop_round h.1⟩
theorem AK_fn {K : Ex → S → Prop} {e : Ex} : AK G (.fn K) e s = K e s := propext ⟨fun ⟨h⟩ => h, fun h => ⟨h⟩⟩
theorem AK_seq_normal {y : Code} : AK G (.seq y k) .normal s = A G y k s := propext ⟨fun ⟨h⟩ => ⟨h⟩, fun ⟨h⟩ => ⟨h⟩⟩
theorem AK_seq_exit {y : Code} {id : Nat} : AK G (.seq y k) (.exit id) s = AK G k (.exit id) s := propext ⟨fun ⟨h⟩ => ⟨h⟩, fun ⟨h⟩ => ⟨h⟩⟩
theorem AK_seq_ret {y : Code} : AK G (.seq y k) .ret s = AK G k .ret s := propext ⟨fun ⟨h⟩ => ⟨h⟩, fun ⟨h⟩ => ⟨h⟩⟩
theorem AK_blk_normal {id : Nat} : AK G (.blk id k) .normal s = AK G k .normal s := propext ⟨fun ⟨h⟩ => ⟨h⟩, fun ⟨h⟩ => ⟨h⟩⟩
theorem AK_blk_ret {id : Nat} : AK G (.blk id k) .ret s = AK G k .ret s := propext ⟨fun ⟨h⟩ => ⟨h⟩, fun ⟨h⟩ => ⟨h⟩⟩
theorem AK_blk_exit {id i : Nat} : AK G (.blk id k) (.exit i) s = if i = id then AK G k .normal s else AK G k (.exit i) s := propext (by
  by_cases h : i = id
  · rw [if_pos h]; exact ⟨fun ⟨q⟩ => ⟨by simpa [den, Kblock, h] using q⟩, fun ⟨q⟩ => ⟨by simpa [den, Kblock, h] using q⟩⟩
  · rw [if_neg h]; exact ⟨fun ⟨q⟩ => ⟨by simpa [den, Kblock, h] using q⟩, fun ⟨q⟩ => ⟨by simpa [den, Kblock, h] using q⟩⟩)
theorem AK_inv_normal {I : S → Prop} {m : Nat} {μ : S → Nat} : AK G (.inv I m μ k) .normal s = (I s ∧ μ s < m) := propext ⟨fun ⟨h⟩ => h, fun h => ⟨h⟩⟩
theorem AK_inv_exit {I : S → Prop} {m : Nat} {μ : S → Nat} {id : Nat} : AK G (.inv I m μ k) (.exit id) s = AK G k (.exit id) s := propext ⟨fun ⟨h⟩ => ⟨h⟩, fun ⟨h⟩ => ⟨h⟩⟩
theorem AK_inv_ret {I : S → Prop} {m : Nat} {μ : S → Nat} : AK G (.inv I m μ k) .ret s = AK G k .ret s := propext ⟨fun ⟨h⟩ => ⟨h⟩, fun ⟨h⟩ => ⟨h⟩⟩
theorem AK_inv2_normal {M : S → Prop} : AK G (.inv2 M k) .normal s = M s := propext ⟨fun ⟨h⟩ => h, fun h => ⟨h⟩⟩
theorem AK_inv2_exit {M : S → Prop} {id : Nat} : AK G (.inv2 M k) (.exit id) s = AK G k (.exit id) s := propext ⟨fun ⟨h⟩ => ⟨h⟩, fun ⟨h⟩ => ⟨h⟩⟩
theorem AK_inv2_ret {M : S → Prop} : AK G (.inv2 M k) .ret s = AK G k .ret s := propext ⟨fun ⟨h⟩ => ⟨h⟩, fun ⟨h⟩ => ⟨h⟩⟩

variable {d : Dr} {ops r : List Oper} {o : Oper}
theorem AO_nil : AO G d ops k [] s = AK G k .normal s := by cases d <;> exact propext ⟨fun ⟨h⟩ => ⟨h⟩, fun ⟨h⟩ => ⟨h⟩⟩
theorem AO_cons : AO G d ops k (o :: r) s = AG G d ops k (wants ops s.env o) o r s := by cases d <;> cases r <;> exact propext ⟨fun ⟨h⟩ => ⟨h⟩, fun ⟨h⟩ => ⟨h⟩⟩
theorem AS_some : AS G d ops k (some s) r = AO G d ops k r s := propext ⟨fun ⟨_, hx, h⟩ => (by cases hx; exact ⟨h⟩), fun ⟨h⟩ => ⟨s, rfl, h⟩⟩
theorem AS_none : AS G d ops k none r = False := propext ⟨fun ⟨_, hx, _⟩ => (by cases hx), fun h => h.elim⟩
theorem AS_of {x : Option S} (h : thenS x (opsX G d ops (den G k .normal) r)) : AS G d ops k x r := by
  cases x with
  | none => exact h.elim
  | some s => exact ⟨s, rfl, h⟩
theorem AS_to {x : Option S} (h : AS G d ops k x r) : thenS x (opsX G d ops (den G k .normal) r) := by
  obtain ⟨s, rfl, h⟩ := h; exact h
theorem AG_any : AG G d ops k (some none) o r s = AS G d ops k (stepX G d o r s) r := propext ⟨fun ⟨h⟩ => AS_of h, fun h => ⟨AS_to h⟩⟩
theorem AG_tt : AG G d ops k (some (some (true, true))) o r s = AS G d ops k (stepX G d o r s) r := propext ⟨fun ⟨h⟩ => AS_of (by simpa using h), fun h => ⟨by simpa using AS_to h⟩⟩
theorem AG_ff : AG G d ops k (some (some (false, false))) o r s = AS G d ops k (stepX G d o r s) r := propext ⟨fun ⟨h⟩ => AS_of (by simpa using h), fun h => ⟨by simpa using AS_to h⟩⟩
theorem AG_tf : AG G d ops k (some (some (true, false))) o r s = AS G d ops k (passV G.n o s) r := propext ⟨fun ⟨h⟩ => AS_of (by simpa using h), fun h => ⟨by simpa using AS_to h⟩⟩
theorem AG_ft : AG G d ops k (some (some (false, true))) o r s = AS G d ops k (passV G.n o s) r := propext ⟨fun ⟨h⟩ => AS_of (by simpa using h), fun h => ⟨by simpa using AS_to h⟩⟩
theorem AG_none : AG G d ops k none o r s = False := propext ⟨fun ⟨h⟩ => h, fun h => h.elim⟩
/-- .. where it is not known whether it is wanted -/
theorem AG_of {b c : Bool} (h1 : b = c → AS G d ops k (stepX G d o r s) r) (h2 : b = !c → AS G d ops k (passV G.n o s) r) : AG G d ops k (some (some (b, c))) o r s := by
  cases b <;> cases c
  · rw [AG_ff]; exact h1 rfl
  · rw [AG_ft]; exact h2 rfl
  · rw [AG_tf]; exact h2 rfl
  · rw [AG_tt]; exact h1 rfl
theorem AB_true {x y : Code} : AB G (some true) x y k s = A G x k s := propext ⟨fun ⟨h⟩ => ⟨by simpa using h⟩, fun ⟨h⟩ => ⟨by simpa using h⟩⟩
theorem AB_false {x y : Code} : AB G (some false) x y k s = A G y k s := propext ⟨fun ⟨h⟩ => ⟨by simpa using h⟩, fun ⟨h⟩ => ⟨by simpa using h⟩⟩
theorem AB_of {b : Bool} {x y : Code} (h1 : b = true → A G x k s) (h2 : b = false → A G y k s) : AB G (some b) x y k s := by
  cases b
  · rw [AB_false]; exact h2 rfl
  · rw [AB_true]; exact h1 rfl
end

theorem stepX_d {G : Gm} {B T : List Nat} {o o' : Oper} {r : List Oper} {s : S} : stepX G (.draws B T) o (o' :: r) s = stepD G.P G.C G.E G.n B T o s := rfl
theorem stepX_l {G : Gm} {B T : List Nat} {o : Oper} {s : S} : stepX G (.draws B T) o [] s = stepL G.P G.C G.E G.n B T o s := rfl
theorem stepX_v {G : Gm} {o : Oper} {r : List Oper} {s : S} : stepX G .no o r s = stepV G.P G.C G.E G.n o s := by cases r <;> rfl

/-- a function's answer, by the walk -/
theorem impl_walk {P : Program} {C : Orc} {E : EqT} (hm : P.follows .mixedOrders = true) (hC : ∀ g sp, C g = some sp → Impl P g sp) (hE : EqOk P E) {f : Nat} {fn : Func} {c : Code} {sp : Spec} {n : Nat} (hf : P.funcs[f]? = some fn) (hb : fn.body = some c)
    (hn : fn.ntmps = n) (hname : (fn.name == "runtime.NumGoroutine") = false)
    (h : ∀ xs r, sp.fn xs = some r → xs.length ≤ n ∧ A ⟨P, C, E, n⟩ c (.fn (Fin P fn xs r)) (init xs)) : Impl P f sp := by
  subst hn
  exact impl_of hm hC hE hf hb hname fun xs r hr => ⟨(h xs r hr).1, (h xs r hr).2.1⟩

end Go.Proofs.YtkfmecmmbnehjaaGreat
/-
Numbers in the plain reckoning: what each operation comes to, by name. No condition.
-/
namespace Go.Proofs.YtkfmecmmbnehjaaGreat
set_option linter.unusedSimpArgs false
set_option linter.unusedVariables false

section
variable (k k' : IntKind) (a b : Int)
theorem bs_add : binS .add (.int k a) (.int k b) = some (.int k (k.wrap (a + b))) := by simp [binS, intBin, bits]
theorem bs_sub : binS .sub (.int k a) (.int k b) = some (.int k (k.wrap (a - b))) := by simp [binS, intBin, bits]
theorem bs_mul : binS .mul (.int k a) (.int k b) = some (.int k (k.wrap (a * b))) := by simp [binS, intBin, bits]
theorem bs_quo : binS .quo (.int k a) (.int k b) = if b = 0 then none else some (.int k (k.wrap (a.tdiv b))) := by simp [binS, intBin, bits]
theorem bs_rem : binS .rem (.int k a) (.int k b) = if b = 0 then none else some (.int k (a.tmod b)) := by simp [binS, intBin, bits]
theorem bs_and : binS .and (.int k a) (.int k b) = some (.int k (bits .and k a b)) := by simp [binS, intBin, bits]
theorem bs_or : binS .or (.int k a) (.int k b) = some (.int k (bits .or k a b)) := by simp [binS, intBin, bits]
theorem bs_xor : binS .xor (.int k a) (.int k b) = some (.int k (bits .xor k a b)) := by simp [binS, intBin, bits]
theorem bs_andNot : binS .andNot (.int k a) (.int k b) = some (.int k (bits .andNot k a b)) := by simp [binS, intBin, bits]
theorem bs_eql : binS .eql (.int k a) (.int k b) = some (.bool (a == b)) := by simp [binS, intBin, bits]
theorem bs_neq : binS .neq (.int k a) (.int k b) = some (.bool (a != b)) := by simp [binS, intBin, bits]
theorem bs_lss : binS .lss (.int k a) (.int k b) = some (.bool (a < b)) := by simp [binS, intBin, bits]
theorem bs_leq : binS .leq (.int k a) (.int k b) = some (.bool (a ≤ b)) := by simp [binS, intBin, bits]
theorem bs_gtr : binS .gtr (.int k a) (.int k b) = some (.bool (a > b)) := by simp [binS, intBin, bits]
theorem bs_geq : binS .geq (.int k a) (.int k b) = some (.bool (a ≥ b)) := by simp [binS, intBin, bits]
end
theorem bs_seq (a b : ByteArray) : binS .eql (.string a) (.string b) = some (.bool (a.toList == b.toList)) := rfl
theorem bs_sne (a b : ByteArray) : binS .neq (.string a) (.string b) = some (.bool (!(a.toList == b.toList))) := rfl
/-- shifts by a number that is known -/
theorem bs_shl (k k' : IntKind) (a b : Int) : binS .shl (.int k a) (.int k' b) = if b < 0 then none else some (.int k (k.wrap (a * 2 ^ (min b.toNat k.bits)))) := rfl
theorem bs_shr (k k' : IntKind) (a b : Int) : binS .shr (.int k a) (.int k' b) = if b < 0 then none else some (.int k (a.fdiv (2 ^ (min b.toNat k.bits)))) := rfl
theorem range_1 : List.range 1 = [0] := rfl
theorem range_2 : List.range 2 = [0, 1] := rfl
theorem range_3 : List.range 3 = [0, 1, 2] := rfl
theorem range_4 : List.range 4 = [0, 1, 2, 3] := rfl
theorem range_5 : List.range 5 = [0, 1, 2, 3, 4] := rfl
theorem range_6 : List.range 6 = [0, 1, 2, 3, 4, 5] := rfl
theorem range_7 : List.range 7 = [0, 1, 2, 3, 4, 5, 6] := rfl
theorem range_8 : List.range 8 = [0, 1, 2, 3, 4, 5, 6, 7] := rfl
theorem range_9 : List.range 9 = [0, 1, 2, 3, 4, 5, 6, 7, 8] := rfl
theorem range_10 : List.range 10 = [0, 1, 2, 3, 4, 5, 6, 7, 8, 9] := rfl
theorem range_11 : List.range 11 = [0, 1, 2, 3, 4, 5, 6, 7, 8, 9, 10] := rfl
theorem range_12 : List.range 12 = [0, 1, 2, 3, 4, 5, 6, 7, 8, 9, 10, 11] := rfl
theorem range_13 : List.range 13 = [0, 1, 2, 3, 4, 5, 6, 7, 8, 9, 10, 11, 12] := rfl
theorem range_14 : List.range 14 = [0, 1, 2, 3, 4, 5, 6, 7, 8, 9, 10, 11, 12, 13] := rfl
theorem range_15 : List.range 15 = [0, 1, 2, 3, 4, 5, 6, 7, 8, 9, 10, 11, 12, 13, 14] := rfl
theorem range_16 : List.range 16 = [0, 1, 2, 3, 4, 5, 6, 7, 8, 9, 10, 11, 12, 13, 14, 15] := rfl
theorem ba_get (a : Array UInt8) (i : Nat) : (ByteArray.mk a)[i]? = a[i]? := by
  by_cases h : i < a.size
  · rw [getElem?_pos (ByteArray.mk a) i h, getElem?_pos a i h]; rfl
  · rw [getElem?_neg (ByteArray.mk a) i h, getElem?_neg a i h]
theorem ba_size (a : Array UInt8) : (ByteArray.mk a).size = a.size := rfl
/-- whole numbers that are of their kind stay as they are -/
theorem w_i64 {n : Int} (h0 : -9223372036854775808 ≤ n) (h1 : n ≤ 9223372036854775807) : IntKind.i64.wrap n = n := by rw [IntKind.wrap_i64]; omega
theorem w_u32 {n : Int} (h0 : 0 ≤ n) (h1 : n ≤ 4294967295) : IntKind.u32.wrap n = n := by rw [IntKind.wrap_u32]; omega
theorem w_u8 {n : Int} (h0 : 0 ≤ n) (h1 : n ≤ 255) : IntKind.u8.wrap n = n := by rw [IntKind.wrap_u8]; omega
/- powers of two; not by definition alone -/
theorem tp_0 : (2 : Int) ^ 0 = 1 := by decide
theorem tp_1 : (2 : Int) ^ 1 = 2 := by decide
theorem tp_2 : (2 : Int) ^ 2 = 4 := by decide
theorem tp_3 : (2 : Int) ^ 3 = 8 := by decide
theorem tp_4 : (2 : Int) ^ 4 = 16 := by decide
theorem tp_5 : (2 : Int) ^ 5 = 32 := by decide
theorem tp_6 : (2 : Int) ^ 6 = 64 := by decide
theorem tp_7 : (2 : Int) ^ 7 = 128 := by decide
theorem tp_8 : (2 : Int) ^ 8 = 256 := by decide
theorem tp_9 : (2 : Int) ^ 9 = 512 := by decide
theorem tp_10 : (2 : Int) ^ 10 = 1024 := by decide
theorem tp_11 : (2 : Int) ^ 11 = 2048 := by decide
theorem tp_12 : (2 : Int) ^ 12 = 4096 := by decide
theorem tp_13 : (2 : Int) ^ 13 = 8192 := by decide
theorem tp_14 : (2 : Int) ^ 14 = 16384 := by decide
theorem tp_15 : (2 : Int) ^ 15 = 32768 := by decide
theorem tp_16 : (2 : Int) ^ 16 = 65536 := by decide
theorem tp_17 : (2 : Int) ^ 17 = 131072 := by decide
theorem tp_18 : (2 : Int) ^ 18 = 262144 := by decide
theorem tp_19 : (2 : Int) ^ 19 = 524288 := by decide
theorem tp_20 : (2 : Int) ^ 20 = 1048576 := by decide
theorem tp_21 : (2 : Int) ^ 21 = 2097152 := by decide
theorem tp_22 : (2 : Int) ^ 22 = 4194304 := by decide
theorem tp_23 : (2 : Int) ^ 23 = 8388608 := by decide
theorem tp_24 : (2 : Int) ^ 24 = 16777216 := by decide
theorem tp_25 : (2 : Int) ^ 25 = 33554432 := by decide
theorem tp_26 : (2 : Int) ^ 26 = 67108864 := by decide
theorem tp_27 : (2 : Int) ^ 27 = 134217728 := by decide
theorem tp_28 : (2 : Int) ^ 28 = 268435456 := by decide
theorem tp_29 : (2 : Int) ^ 29 = 536870912 := by decide
theorem tp_30 : (2 : Int) ^ 30 = 1073741824 := by decide
theorem tp_31 : (2 : Int) ^ 31 = 2147483648 := by decide
theorem tp_32 : (2 : Int) ^ 32 = 4294967296 := by decide
/-- what a called function sees, form by form (expV itself is not unfolded: it stands under mapM) -/
theorem xp_s (st : Nat → Blk) (n : Nat) (v : Value) : expV st (n + 1) (.s v) = some (.s v) := rfl
theorem xp_agg (st : Nat → Blk) (n : Nat) (l : List V) : expV st (n + 1) (.agg l) = (l.mapM (expV st n)).map .agg := rfl
theorem xp_tup (st : Nat → Blk) (n : Nat) (l : List V) : expV st (n + 1) (.tup l) = (l.mapM (expV st n)).map .tup := rfl
theorem xp_lst (st : Nat → Blk) (n : Nat) (fr : Bool) (sz : Nat) (l : List V) : expV st (n + 1) (.lst fr sz l) = some (.lst false sz l) := rfl
theorem xp_sw (st : Nat → Blk) (n : Nat) (b ver m : Nat) : expV st (n + 1) (.sw b ver m) = elseV ((rowAt st b ver).map fun (sz, _, l) => .lst false sz l) ((rowVAt st b ver).bind fun (sz, _, l) => (l.mapM fun (x : V) => (x.cells.mapM (expV st n)).map (withCells x)).map (.lst false sz)) := rfl
theorem xp_sp (st : Nat → Blk) (n : Nat) (b ver sz off len : Nat) : expV st (n + 1) (.sp b ver sz off len) = (rowAt st b ver).bind fun (sz', _, l) => if sz' = sz ∧ off + len ≤ l.length then some (.lst false sz ((l.drop off).take len)) else none := rfl
theorem xp_bp (st : Nat → Blk) (n : Nat) (b ver off len : Nat) : expV st (n + 1) (.bp b ver off len) = (boxAt st b ver).bind fun cs => if off + len ≤ cs.length ∧ ((cs.drop off).take len).all V.scal1 then some (.lst false 1 ((cs.drop off).take len)) else none := rfl
theorem xp_ptr (st : Nat → Blk) (n : Nat) (b ver off : Nat) : expV st (n + 1) (.ptr b ver off) = (boxAt st b ver).bind fun cs => ((cs.drop off).mapM (expV st n)).map .ept := rfl
theorem xp_ept (st : Nat → Blk) (n : Nat) (l : List V) : expV st (n + 1) (.ept l) = some (.ept l) := rfl
theorem xp_fn (st : Nat → Blk) (n : Nat) (f : Nat) (l : List V) : expV st (n + 1) (.fn f l) = (l.mapM (expV st n)).map (.fn f) := rfl
theorem xr_s (st : Nat → Blk) (n : Nat) (v : Value) : resV st (n + 1) (.s v) = some (.s v) := rfl
theorem xr_agg (st : Nat → Blk) (n : Nat) (l : List V) : resV st (n + 1) (.agg l) = (l.mapM (resV st n)).map .agg := rfl
theorem xr_tup (st : Nat → Blk) (n : Nat) (l : List V) : resV st (n + 1) (.tup l) = (l.mapM (resV st n)).map .tup := rfl
theorem xr_lst (st : Nat → Blk) (n : Nat) (fr : Bool) (sz : Nat) (l : List V) : resV st (n + 1) (.lst fr sz l) = if fr then some (.lst true sz l) else none := rfl
theorem xr_sw (st : Nat → Blk) (n : Nat) (b ver m : Nat) : resV st (n + 1) (.sw b ver m) = (rowAt st b ver).map fun (sz, _, l) => .lst true sz l := rfl
theorem xr_sp (st : Nat → Blk) (n : Nat) (b ver sz off len : Nat) : resV st (n + 1) (.sp b ver sz off len) = (rowAt st b ver).bind fun (sz', _, l) => if sz' = sz ∧ off + len ≤ l.length then some (.lst true sz ((l.drop off).take len)) else none := rfl
theorem xr_ept (st : Nat → Blk) (n : Nat) (l : List V) : resV st (n + 1) (.ept l) = none := rfl
theorem xa_s (st : Nat → Blk) (bs : List Nat) (n : Nat) (v : Value) : apartV st bs (n + 1) (.s v) = true := rfl
theorem xa_agg (st : Nat → Blk) (bs : List Nat) (n : Nat) (l : List V) : apartV st bs (n + 1) (.agg l) = l.all (apartV st bs n) := rfl
theorem xa_tup (st : Nat → Blk) (bs : List Nat) (n : Nat) (l : List V) : apartV st bs (n + 1) (.tup l) = l.all (apartV st bs n) := rfl
theorem xa_fn (st : Nat → Blk) (bs : List Nat) (n : Nat) (f : Nat) (l : List V) : apartV st bs (n + 1) (.fn f l) = l.all (apartV st bs n) := rfl
theorem xa_sw (st : Nat → Blk) (bs : List Nat) (n : Nat) (b ver m : Nat) : apartV st bs (n + 1) (.sw b ver m) = (!(bs.contains b) && (match (st b).c with | .rowV _ _ l => l.all fun (x : V) => x.cells.all (apartV st bs n) | _ => true)) := rfl
theorem xa_sp (st : Nat → Blk) (bs : List Nat) (n : Nat) (b ver sz off len : Nat) : apartV st bs (n + 1) (.sp b ver sz off len) = !(bs.contains b) := rfl
theorem xa_bp (st : Nat → Blk) (bs : List Nat) (n : Nat) (b ver off len : Nat) : apartV st bs (n + 1) (.bp b ver off len) = !(bs.contains b) := rfl
theorem xa_ptr (st : Nat → Blk) (bs : List Nat) (n : Nat) (b ver off : Nat) : apartV st bs (n + 1) (.ptr b ver off) = (!(bs.contains b) && (match (st b).c with | .box cs => cs.all (apartV st bs n) | _ => true)) := rfl
theorem xa_lst (st : Nat → Blk) (bs : List Nat) (n : Nat) (fr : Bool) (sz : Nat) (l : List V) : apartV st bs (n + 1) (.lst fr sz l) = true := rfl
theorem xa_ept (st : Nat → Blk) (bs : List Nat) (n : Nat) (l : List V) : apartV st bs (n + 1) (.ept l) = true := rfl
attribute [go_sem high] A_skip A_label A_exit A_ret A_seq A_block A_region A_cond AK_seq_normal AK_seq_exit AK_seq_ret AK_blk_normal AK_blk_ret AK_blk_exit AK_inv_normal AK_inv_exit AK_inv_ret AK_inv2_normal AK_inv2_exit AK_inv2_ret AK_fn AO_nil AO_cons AS_some AS_none AG_any AG_tt AG_ff AG_tf AG_ft AG_none AB_true AB_false stepX_d stepX_l stepX_v asB passV wants stepV stepD stepL readsOk freeOk turns apartL V.ref opV ev binV bs_add bs_sub bs_mul bs_quo bs_rem bs_and bs_or bs_xor bs_andNot bs_eql bs_neq bs_lss bs_leq bs_gtr bs_geq bs_seq bs_sne bs_shl bs_shr upd_apply ups unV pickV_true pickV_false callV argsV argsApart xa_s xa_agg xa_tup xa_fn xa_sw xa_sp xa_bp xa_ptr xa_lst xa_ept apartL V.movable movV movC ownRow nest hang backV makeV ifaceV assertV maxV minV nilEq rowAny putRow V.scal1 V.scalT V.isOwn ownAt xp_s xp_agg xp_tup xp_lst xp_sw xp_sp xp_bp xp_ptr xp_ept xp_fn fieldAddrV loadV storeV boxAt rowAt loadC spl V.cells V.unfr V.unfrL V.one V.clo V.cloL V.scal convV lenV elemsOf asI bnds sliceV indexAddrV indexV appendV buildSliceV fillC eqInts Value.oneCell' withCells init inC resL one resOf ioOf resT xr_s xr_agg xr_tup xr_lst xr_sw xr_sp xr_ept List.nodup_cons List.nodup_nil List.append_nil Nat.lt_irrefl Nat.le_refl Nat.sub_zero Nat.sub_self Int.le_refl Int.lt_irrefl Nat.zero_add Nat.add_zero Nat.zero_mul Nat.not_lt_zero Nat.zero_le Nat.le_zero_eq Nat.zero_lt_succ Nat.lt_add_one if_true if_false Option.bind_some Option.map_some Option.bind_none Option.map_none Option.isSome_some Option.isSome_none Option.isNone_none Option.isNone_some Option.pure_def Option.bind_eq_bind List.mapM_cons List.mapM_nil List.getElem?_cons_zero List.getElem?_cons_succ List.getElem?_nil List.getElem?_toArray Option.getD_some Option.getD_none and_true true_and and_self and_false false_and or_true true_or or_false false_or Bool.false_eq_true Bool.true_eq_false ite_true ite_false List.map_cons List.map_nil List.length_cons List.length_nil List.take_succ_cons List.take_zero List.take_nil List.drop_succ_cons List.drop_zero List.drop_nil List.append_assoc List.cons_append List.nil_append List.append_nil List.all_cons List.all_nil List.head?_cons List.head?_nil List.headD_cons List.headD_nil List.tail_cons List.tail_nil Bool.and_true Bool.true_and Bool.and_false Bool.false_and Bool.or_true Bool.true_or Bool.or_false Bool.false_or Bool.not_true Bool.not_false not_true_eq_false not_false_eq_true Nat.succ_ne_zero List.toList_toArray Option.some.injEq decide_true decide_false decide_eq_true_eq Bool.not_eq_true' List.map_map Function.comp_apply Function.comp_def ne_eq beq_self_eq_true true_implies implies_true List.isEmpty_nil List.isEmpty_cons List.contains_cons List.contains_nil List.elem_cons List.elem_nil IntKind.bits Nat.min_def tp_0 tp_1 tp_2 tp_3 tp_4 tp_5 tp_6 tp_7 tp_8 tp_9 tp_10 tp_11 tp_12 tp_13 tp_14 tp_15 tp_16 tp_17 tp_18 tp_19 tp_20 tp_21 tp_22 tp_23 tp_24 tp_25 tp_26 tp_27 tp_28 tp_29 tp_30 tp_31 tp_32 Value.cells fits range_1 range_2 range_3 range_4 range_5 range_6 range_7 range_8 range_9 range_10 range_11 range_12 range_13 range_14 range_15 range_16 Int.cast_ofNat_Int ba_get ba_size List.size_toArray w_i64 w_u32 w_u8 ge_iff_le gt_iff_lt undef eq_self elseV_some elseV_none rowVAt makeMapV lookV putV mapAt wfI clearV
end Go.Proofs.YtkfmecmmbnehjaaGreat
/-
From the plain reckoning to what a row asks for. No condition.
-/
namespace Go.Proofs.YtkfmecmmbnehjaaGreat
set_option linter.unusedSimpArgs false
set_option linter.unusedVariables false
open Go.RowKit

theorem RC.notown {w : World} {own fresh : Nat → Prop} {k : Bool} {u : Value} {x : V} (h : RC w own fresh k u x) : x.isOwn = false := by cases h <;> rfl
/-- arguments of which none is handed over -/
structure ArgsN (w : World) (vs : List Value) (xs : List V) : Prop where
  pw : PW (RC w (fun _ => False) (Fresh w fun _ => False) false) vs xs
theorem ArgsN.nil {w : World} : ArgsN w [] [] := ⟨PW.nil⟩
theorem ArgsN.cons {w : World} {u : Value} {us : List Value} {x : V} {xs : List V} (h : RC w (fun _ => False) (Fresh w fun _ => False) false u x) (k : ArgsN w us xs) : ArgsN w (u :: us) (x :: xs) := ⟨PW.cons h k.pw⟩
theorem ArgsN.s {w : World} {u : Value} {us : List Value} {xs : List V} (k : ArgsN w us xs) : ArgsN w (u :: us) (.s u :: xs) := .cons (.s _ _) k
theorem ArgsN.args {w : World} {us : List Value} {xs : List V} (k : ArgsN w us xs) : Args w (fun _ => False) us xs := by
  have no : ∀ (i : Nat) (x : V), xs[i]? = some x → x.isOwn = false := fun i x hx => by
    obtain ⟨u, _, hr⟩ := k.pw.get hx
    exact hr.notown
  refine ⟨k.pw.imp fun u x hr => ArgR.of hr hr.notown, fun i j x y h1 h2 hx hy => ?_, fun i x h1 hx => ?_⟩
  · rw [no i x h1] at hx; cases hx
  · rw [no i x h1] at hx; cases hx

/-- a law answers true and turns nothing that was -/
theorem impl_true {P : Program} {f : Nat} {sp : Spec} (h : Impl P f sp) {xs : List V} (hx : sp.fn xs = some (.s (.bool true))) {vs : Array Value} {w : World} (ha : ArgsN w vs.toList xs) :
    Calls P f vs w fun e w' => e = .returned (.bool true) ∧ Below w.heap.size w w' := by
  refine (h.2 xs _ hx vs w _ ha.args).mono fun e w' ⟨v, he, hf, hr⟩ => ?_
  have hv : v = .bool true := by
    have hr' : RC w' (fun _ => False) (Fresh w fun _ => False) true v (.s (.bool true)) := hr
    cases hr'; rfl
  exact ⟨by rw [he, hv], hf.os, hf.tape, hf.output, hf.size, fun k hk => hf.block k hk (fun h => h)⟩

open Classical in
/-- .. where the arguments may be seen in another form -/
theorem impl_walk2 {P : Program} {C : Orc} {E : EqT} (hm : P.follows .mixedOrders = true) (hC : ∀ g sp, C g = some sp → Impl P g sp) (hE : EqOk P E) {f : Nat} {fn : Func} {c : Code} {sp : Spec} {n : Nat} (hf : P.funcs[f]? = some fn) (hb : fn.body = some c)
    (hn : fn.ntmps = n) (hname : (fn.name == "runtime.NumGoroutine") = false)
    (h : ∀ xs r, sp.fn xs = some r → ∃ xs', (∀ w J vs, Args w J vs xs → Args w J vs xs') ∧ xs'.length ≤ n ∧ A ⟨P, C, E, n⟩ c (.fn (Fin P fn xs' r)) (init xs')) : Impl P f sp := by
  refine ⟨⟨fn, hf, hname, by rw [hb]; rfl⟩, fun xs r hx vs w J ha => ?_⟩
  obtain ⟨xs', h1, h2, h3⟩ := h xs r hx
  have : Impl P f ⟨[], fun ys => if ys = xs' then some r else none⟩ := impl_walk hm hC hE hf hb hn hname fun ys r' hy => by
    simp only at hy
    split at hy
    · rename_i e
      subst e
      simp only [Option.some.injEq] at hy
      subst hy
      exact ⟨h2, h3⟩
    · cases hy
  exact this.2 xs' r (by simp) vs w J (h1 w J vs.toList ha)

/-- a value that is read may be seen in another form -/
def Sees (x y : V) : Prop := x = y ∨ (x.isOwn = false ∧ y.isOwn = false ∧ ∀ (w : World) (own fresh : Nat → Prop) (u : Value), RC w own fresh false u x → RC w own fresh false u y)
theorem Sees.same {x : V} : Sees x x := .inl rfl
theorem Sees.rc {x y : V} (h : Sees x y) {w : World} {own fresh : Nat → Prop} {u : Value} (k : RC w own fresh false u x) : RC w own fresh false u y := by
  rcases h with rfl | ⟨_, _, h⟩
  · exact k
  · exact h _ _ _ _ k
inductive SeesL : List V → List V → Prop
  | nil : SeesL [] []
  | cons {x y : V} {xs ys : List V} (h : Sees x y) (k : SeesL xs ys) : SeesL (x :: xs) (y :: ys)
theorem SeesL.same : ∀ {xs : List V}, SeesL xs xs
  | [] => .nil
  | _ :: _ => .cons .same .same
theorem SeesL.len {xs ys : List V} (h : SeesL xs ys) : xs.length = ys.length := by
  induction h with
  | nil => rfl
  | cons _ _ ih => simp [ih]
theorem SeesL.get {xs ys : List V} (h : SeesL xs ys) : ∀ {i : Nat} {y : V}, ys[i]? = some y → ∃ x, xs[i]? = some x ∧ Sees x y := by
  induction h with
  | nil => intro i y hy; simp at hy
  | cons h k ih =>
    intro i y hy
    cases i with
    | zero => simp at hy; subst hy; exact ⟨_, by simp, h⟩
    | succ i => obtain ⟨x, hx, hs⟩ := ih (by simpa using hy); exact ⟨x, by simpa using hx, hs⟩
theorem Sees.isOwn {x y : V} (h : Sees x y) : x.isOwn = y.isOwn := by
  rcases h with rfl | ⟨h1, h2, _⟩
  · exact rfl
  · rw [h1, h2]
theorem SeesL.pw {w : World} {own fresh : Nat → Prop} {us : List Value} {xs ys : List V} (h : SeesL xs ys) (k : PW (RC w own fresh false) us xs) : PW (RC w own fresh false) us ys :=
  ⟨k.1.trans h.len, fun i u y hu hy => by obtain ⟨x, hx, hs⟩ := h.get hy; exact hs.rc (k.2 i u x hu hx)⟩
/-- arguments in another form -/
theorem SeesL.args {xs ys : List V} (h : SeesL xs ys) (w : World) (J : Nat → Prop) (vs : List Value) (k : Args w J vs xs) : Args w J vs ys := by
  refine ⟨⟨k.pw.1.trans h.len, fun i u y hu hy => ?_⟩, fun i j a b h1 h2 ha hb => ?_, fun i a h1 ha => ?_⟩
  · obtain ⟨x, hx, hs⟩ := h.get hy
    have hr := k.pw.2 i u x hu hx
    rcases hs with rfl | ⟨h1, h2, h3⟩
    · exact hr
    · refine ArgR.of (h3 _ _ _ _ ?_) h2
      cases x <;> first | exact hr | (simp [V.isOwn] at h1)
  · obtain ⟨x, hx, hs⟩ := h.get h1
    obtain ⟨y, hy, hs'⟩ := h.get h2
    exact k.one i j x y hx hy (by rw [hs.isOwn]; exact ha) (by rw [hs'.isOwn]; exact hb)
  · obtain ⟨x, hx, hs⟩ := h.get h1
    obtain ⟨h3, h4⟩ := k.small i x hx (by rw [hs.isOwn]; exact ha)
    refine ⟨h3, fun cs hcs => ?_⟩
    rcases hs with rfl | ⟨_, h6, _⟩
    · exact h4 cs hcs
    · rw [h6] at ha; cases ha
theorem Sees.agg {l m : List V} (h : SeesL l m) : Sees (.agg l) (.agg m) := .inr ⟨rfl, rfl, fun w own fresh u hr => by
  cases hr with
  | agg k us l hl he =>
    have := h.pw ⟨hl, he⟩
    exact .agg _ us m this.1 this.2⟩
end Go.Proofs.YtkfmecmmbnehjaaGreat
namespace Go.Proofs.YtkfmecmmbnehjaaGreat
set_option linter.unusedSimpArgs false
set_option linter.unusedVariables false
open Go.RowKit Go.WideShapes Go.ChangeAt

/-- a struct or an array is seen as its cells, all else as one -/
def FormV (P : Program) (e : TypeId) (x : V) : Prop := (isAggB P e = some true → x = .agg x.cells) ∧ (isAggB P e = some false → x.cells = [x])
/-- the cells of a value of a type -/
inductive TyV (P : Program) : TypeId → List V → Prop
  | int {t : TypeId} {k : IntKind} {n : Int} (ht : P.underlying t = some (.int k)) (hw : (Lit.int k n).wf = true) : TyV P t [.s (.int k n)]
  | bool {t : TypeId} {b : Bool} (ht : P.underlying t = some .bool) : TyV P t [.s (.bool b)]
  | str {t : TypeId} {s : ByteArray} (ht : P.underlying t = some .string) (hl : s.size ≤ maxLen) : TyV P t [.s (.string s)]
  | nil {t e : TypeId} (ht : P.underlying t = some (.slice e)) : TyV P t [.s (.slice none 0 0)]
  | lst {t e : TypeId} {l : List V} (ht : P.underlying t = some (.slice e)) (hl : l.length ≤ maxLen) (h : ∀ x ∈ l, TyV P e x.cells) (ha : ∀ x ∈ l, FormV P e x) : TyV P t [.lst false (P.cellsOf e) l]
  | struct {t : TypeId} {fs : Array Field} {ls : List (List V)} (ht : P.underlying t = some (.struct fs)) (hl : ls.length = fs.size) (h : ∀ (i : Nat) (f : Field) (l : List V), fs[i]? = some f → ls[i]? = some l → TyV P f.type l) : TyV P t ls.flatten
  | array {t e : TypeId} {n : Nat} {ls : List (List V)} (ht : P.underlying t = some (.array n e)) (hl : ls.length = n) (h : ∀ l ∈ ls, TyV P e l) : TyV P t ls.flatten

def contig (P : Program) (g : TypeId → Bool) : Nat → List Field → Option Nat
  | k, [] => some k
  | k, f :: fs => if f.offset = k ∧ g f.type = true then contig P g (k + P.cellsOf f.type) fs else none
/-- made of numbers, truths, texts, structs, arrays and slices -/
def plainT (P : Program) : Nat → TypeId → Bool
  | 0, _ => false
  | d + 1, t => match P.underlying t with
    | some .bool => P.cellsOf t == 1
    | some (.int _) => P.cellsOf t == 1
    | some .string => P.cellsOf t == 1
    | some (.slice e) => P.cellsOf t == 1 && plainT P d e && decide (0 < P.cellsOf e)
    | some (.struct fs) => contig P (plainT P d) 0 fs.toList == some (P.cellsOf t)
    | some (.array n e) => plainT P d e && P.cellsOf t == n * P.cellsOf e
    | _ => false

section
variable {H : Type} {enc : TypeId × Value → H} {P : Program} {w : World} {spare : Nat → Bool} {held : Bool}

/-- what is known of cells that are read -/
def Opened (P : Program) (w : World) (t : TypeId) (cs : List Value) : Prop :=
  ∃ l : List V, (∀ fresh, PW (RC w (fun _ => False) fresh false) cs l) ∧ TyV P t l ∧ l.length = P.cellsOf t ∧ (isAggB P t = some false → ∃ y, l = [y] ∧ y.cells = [y]) ∧ (isAggB P t).isSome = true ∧ ∀ u ∈ cs, u.oneCell' = true

theorem open_fields {g : TypeId → Bool} {cs : List Value} : ∀ (fs : List Field) (k : Nat), contig P g k fs = some cs.length → (∀ f ∈ fs, g f.type = true → Opened P w f.type ((cs.drop f.offset).take (P.cellsOf f.type))) →
    ∃ ls : List (List V), ls.length = fs.length ∧ (∀ fresh, PW (RC w (fun _ => False) fresh false) (cs.drop k) ls.flatten) ∧ (∀ (i : Nat) (f : Field) (l : List V), fs[i]? = some f → ls[i]? = some l → TyV P f.type l) ∧ ∀ u ∈ cs.drop k, u.oneCell' = true
  | [], k, hc, _ => by
    simp only [contig, Option.some.injEq] at hc
    subst hc
    exact ⟨[], rfl, fun fresh => by rw [List.drop_length]; exact PW.nil, fun i f l h => by simp at h, fun u hu => by rw [List.drop_length] at hu; cases hu⟩
  | f :: fs, k, hc, ho => by
    simp only [contig] at hc
    split at hc
    case isFalse => cases hc
    rename_i hf
    obtain ⟨rfl, hg⟩ := hf
    obtain ⟨l, h1, h2, h3, _, _, h4⟩ := ho f (by simp) hg
    obtain ⟨ls, i1, i2, i3, i4⟩ := open_fields fs _ hc fun f' hf' => ho f' (by simp [hf'])
    have e : cs.drop f.offset = (cs.drop f.offset).take (P.cellsOf f.type) ++ cs.drop (f.offset + P.cellsOf f.type) := by
      rw [← List.drop_drop, List.take_append_drop]
    refine ⟨l :: ls, by simp [i1], fun fresh => ?_, fun i f' l' hi hl => ?_, fun u hu => ?_⟩
    · rw [e, List.flatten_cons]
      exact (h1 fresh).append (i2 fresh)
    · cases i with
      | zero => simp at hi hl; subst hi; subst hl; exact h2
      | succ i => exact i3 i f' l' (by simpa using hi) (by simpa using hl)
    · rw [e] at hu
      rcases List.mem_append.1 hu with hu | hu
      · exact h4 u hu
      · exact i4 u hu

theorem open_items {e : TypeId} {cs : List Value} : ∀ (c k : Nat), cs.length = (k + c) * P.cellsOf e → (∀ i, k ≤ i → i < k + c → Opened P w e ((cs.drop (i * P.cellsOf e)).take (P.cellsOf e))) →
    ∃ ls : List (List V), ls.length = c ∧ (∀ fresh, PW (RC w (fun _ => False) fresh false) (cs.drop (k * P.cellsOf e)) ls.flatten) ∧ (∀ l ∈ ls, TyV P e l) ∧ ∀ u ∈ cs.drop (k * P.cellsOf e), u.oneCell' = true
  | 0, k, hl, _ => by
    have : cs.drop (k * P.cellsOf e) = [] := List.drop_eq_nil_of_le (by simp at hl; omega)
    exact ⟨[], rfl, fun fresh => (by rw [this]; exact PW.nil), fun l h => (by cases h), fun u hu => (by rw [this] at hu; cases hu)⟩
  | c + 1, k, hl, ho => by
    obtain ⟨l, h1, h2, h3, _, _, h4⟩ := ho k (Nat.le_refl _) (by omega)
    obtain ⟨ls, i1, i2, i3, i4⟩ := open_items c (k + 1) (by rw [hl]; congr 1; omega) fun i h5 h6 => ho i (by omega) (by omega)
    have hk : (k + 1) * P.cellsOf e = k * P.cellsOf e + P.cellsOf e := by rw [Nat.add_mul]; omega
    have e1 : cs.drop (k * P.cellsOf e) = (cs.drop (k * P.cellsOf e)).take (P.cellsOf e) ++ cs.drop ((k + 1) * P.cellsOf e) := by
      rw [hk, ← List.drop_drop, List.take_append_drop]
    refine ⟨l :: ls, by simp [i1], fun fresh => ?_, fun l' hl' => ?_, fun u hu => ?_⟩
    · rw [e1, List.flatten_cons]
      exact (h1 fresh).append (i2 fresh)
    · rcases List.mem_cons.1 hl' with rfl | hl'
      · exact h2
      · exact i3 l' hl'
    · rw [e1] at hu
      rcases List.mem_append.1 hu with hu | hu
      · exact h4 u hu
      · exact i4 u hu

/-- an element of a row -/
def mkV (ag : Bool) (l : List V) : V := if ag then .agg l else l.headD (.s undef)
theorem open_elems {e : TypeId} {a : Addr} {ag : Bool} (hag : isAggB P e = some ag) : ∀ (c k : Nat), (∀ i, k ≤ i → i < k + c → ∃ cs, w.cells? 0 (a.add (i * P.cellsOf e)) (P.cellsOf e) = some cs ∧ Opened P w e cs) →
    ∃ (l : List V) (us : List Value), l.length = c ∧ (∀ x ∈ l, x.cells.length = P.cellsOf e ∧ TyV P e x.cells ∧ FormV P e x) ∧ (∀ fresh, PW (RC w (fun _ => False) fresh false) us (flat l)) ∧ (∀ u ∈ us, u.oneCell' = true) ∧
      ∀ j u, us[j]? = some u → w.cell? (a.add (k * P.cellsOf e + j)) = some u
  | 0, k, _ => ⟨[], [], rfl, fun x h => by simp at h, fun fresh => PW.nil, fun u h => by simp at h, fun j u h => by simp at h⟩
  | c + 1, k, ho => by
    obtain ⟨cs, hcs, l, h1, h2, h3, h4, _, h5⟩ := ho k (Nat.le_refl _) (by omega)
    obtain ⟨ls, us, i1, i2, i3, i4, i5⟩ := open_elems hag c (k + 1) fun i h5 h6 => ho i (by omega) (by omega)
    have hk : (k + 1) * P.cellsOf e = k * P.cellsOf e + P.cellsOf e := by rw [Nat.add_mul]; omega
    have hx : (mkV ag l).cells = l ∧ (ag = true → mkV ag l = .agg l) := by
      cases ag with
      | true => exact ⟨rfl, fun _ => rfl⟩
      | false =>
        obtain ⟨y, rfl, hy⟩ := h4 hag
        exact ⟨by simpa [mkV] using hy, fun h => by cases h⟩
    have hcl : cs.length = P.cellsOf e := by rw [(h1 fun _ => False).1, h3]
    refine ⟨mkV ag l :: ls, cs ++ us, by simp [i1], fun x hx' => ?_, fun fresh => ?_, fun u hu => ?_, fun j u hj => ?_⟩
    · rcases List.mem_cons.1 hx' with rfl | hx'
      · rw [hx.1]
        refine ⟨h3, h2, fun h => ?_, fun h => ?_⟩
        · rw [hag] at h
          simp only [Option.some.injEq] at h
          rw [hx.2 h]; rfl
        · rw [hag] at h
          simp only [Option.some.injEq] at h
          obtain ⟨y, rfl, hy⟩ := h4 (by rw [hag, h])
          subst h
          simpa [mkV] using hy
      · exact i2 x hx'
    · simp only [flat, List.flatMap_cons]
      rw [hx.1]
      exact (h1 fresh).append (i3 fresh)
    · rcases List.mem_append.1 hu with hu | hu
      · exact h5 u hu
      · exact i4 u hu
    · rw [List.getElem?_append] at hj
      split at hj
      · rename_i hlt
        unfold World.cells? at hcs
        rw [if_pos (Nat.zero_le _)] at hcs
        have h7 : w.cell? ((a.add (k * P.cellsOf e)).add j) = cs[j]? := mapM_some_get hcs j j (List.getElem?_range (by omega))
        rw [Addr.add_add, hj] at h7
        exact h7
      · rename_i hge
        have := i5 (j - cs.length) u hj
        rw [hk] at this
        rw [show k * P.cellsOf e + j = k * P.cellsOf e + P.cellsOf e + (j - cs.length) by omega]
        exact this

theorem open_cells : ∀ (d : Nat) (t : TypeId) (fuel : Nat) (cs : List Value) (x : DataW H × List MemPlace), plainT P d t = true → DataW.trod enc P w 0 spare held fuel t cs = some x → Opened P w t cs
  | 0, t, fuel, cs, x, hp, _ => by simp [plainT] at hp
  | d + 1, t, 0, cs, x, hp, h => by simp [DataW.trod] at h
  | d + 1, t, m + 1, cs, x, hp, h => by
    simp only [plainT] at hp
    have hag : ∀ {d : TypeDesc}, P.underlying t = some d → isAggB P t = some (aggD d) := fun h => aggB_of h
    split at hp
    · rename_i hu
      obtain ⟨b, rfl, _⟩ := DataW.trod_bool hu h
      have hc : P.cellsOf t = 1 := by simpa using hp
      exact ⟨[.s (.bool b)], fun fresh => PW.one (.s _ _), .bool hu, by rw [hc]; rfl, fun _ => ⟨_, rfl, rfl⟩, by rw [hag hu]; rfl, fun u hu => by simp at hu; subst hu; rfl⟩
    · rename_i k hu
      obtain ⟨n, rfl, _, hw⟩ := DataW.trod_int hu h
      have hc : P.cellsOf t = 1 := by simpa using hp
      exact ⟨[.s (.int k n)], fun fresh => PW.one (.s _ _), .int hu hw, by rw [hc]; rfl, fun _ => ⟨_, rfl, rfl⟩, by rw [hag hu]; rfl, fun u hu => by simp at hu; subst hu; rfl⟩
    · rename_i hu
      obtain ⟨s, rfl, _, hl⟩ := DataW.trod_string hu h
      have hc : P.cellsOf t = 1 := by simpa using hp
      exact ⟨[.s (.string s)], fun fresh => PW.one (.s _ _), .str hu hl, by rw [hc]; rfl, fun _ => ⟨_, rfl, rfl⟩, by rw [hag hu]; rfl, fun u hu => by simp at hu; subst hu; rfl⟩
    · rename_i e hu
      simp only [Bool.and_eq_true, beq_iff_eq, decide_eq_true_eq] at hp
      obtain ⟨⟨hc, hpe⟩, hpos⟩ := hp
      rcases DataW.trod_slice hu h with ⟨rfl, _⟩ | ⟨a, len, cap, elems, rest, n, hn, rfl, _, _, hlc, hcm, hel, helem, _⟩
      · exact ⟨[.s (.slice none 0 0)], fun fresh => PW.one (.s _ _), .nil hu, by rw [hc]; rfl, fun _ => ⟨_, rfl, rfl⟩, by rw [hag hu]; rfl, fun u hu => by simp at hu; subst hu; rfl⟩
      · have hop : ∀ i, 0 ≤ i → i < 0 + len → ∃ cs, w.cells? 0 (a.add (i * P.cellsOf e)) (P.cellsOf e) = some cs ∧ Opened P w e cs := fun i _ hi => by
          have hi' : i < elems.length := by omega
          have := helem i (by omega)
          rw [List.getElem?_eq_getElem hi'] at this
          obtain ⟨cs, h1, h2⟩ := Option.bind_eq_some_iff.1 this
          exact ⟨cs, h1, open_cells d e n cs _ hpe h2⟩
        have hsome : ∃ ag, isAggB P e = some ag := by
          cases d with
          | zero => simp [plainT] at hpe
          | succ d =>
            simp only [plainT] at hpe
            cases hue : P.underlying e with
            | none => rw [hue] at hpe; cases hpe
            | some de => exact ⟨_, aggB_of hue⟩
        obtain ⟨ag, hage⟩ := hsome
        obtain ⟨l, us, i1, i2, i3, i4, i5⟩ := open_elems hage len 0 hop
        refine ⟨[.lst false (P.cellsOf e) l], fun fresh => PW.one ?_, .lst hu (by omega) (fun x hx => (i2 x hx).2.1) (fun x hx => (i2 x hx).2.2), by rw [hc]; rfl, fun _ => ⟨_, rfl, rfl⟩, by rw [hag hu]; rfl, fun u hu => by simp at hu; subst hu; rfl⟩
        have := RC.lst (w := w) (own := fun _ => False) (fresh := fresh) false false (P.cellsOf e) l (some a) cap us (by rw [i1]; exact hlc) (fun x hx => (i2 x hx).1) (i3 fresh).1 (i3 fresh).2 i4 (by
          cases us with
          | nil => exact .inl rfl
          | cons u us =>
            right
            have h0 := i5 0 u rfl
            simp only [Nat.zero_mul, Nat.add_zero] at h0
            have hsp : a.spot = none := by
              unfold Addr.add at h0
              simp only [if_true] at h0
              unfold World.cell? at h0
              split at h0
              · split at h0
                · cases h0
                · rename_i hsp; simpa using hsp
              · cases h0
            obtain ⟨g, o, sp⟩ := a
            simp only at hsp
            subst hsp
            refine ⟨g, o, rfl, fun h => h, fun h => (by cases h), fun j u hj => ?_⟩
            have := i5 j u hj
            rw [Nat.zero_mul, Nat.zero_add, Addr.add_lit] at this
            exact this)
        rw [i1] at this
        exact this
    · rename_i fs hu
      have hp' : contig P (plainT P d) 0 fs.toList = some (P.cellsOf t) := by simpa using hp
      obtain ⟨xs, n, hn, _, hl, hlen, hf⟩ := DataW.trod_struct hu h
      obtain ⟨ls, i1, i2, i3, i4⟩ := open_fields (w := w) (g := plainT P d) (cs := cs) fs.toList 0 (by rw [hp', hl]) fun f hf' hg => by
        obtain ⟨i, hi⟩ := List.getElem?_of_mem hf'
        have hi' : fs[i]? = some f := by simpa using hi
        have := hf i f hi'
        have hlt : i < xs.length := by rw [hlen]; exact (Array.getElem?_eq_some_iff.1 hi').1
        rw [List.getElem?_eq_getElem hlt] at this
        exact open_cells d f.type n _ _ hg this
      rw [List.drop_zero] at i2 i4
      refine ⟨ls.flatten, i2, .struct hu (by simpa using i1) fun i f l hi hl => i3 i f l (by simpa using hi) hl, by rw [← (i2 fun _ => False).1, hl], fun h => (by rw [hag hu] at h; cases h), by rw [hag hu]; rfl, i4⟩
    · rename_i n e hu
      simp only [Bool.and_eq_true, beq_iff_eq] at hp
      obtain ⟨hpe, hc⟩ := hp
      obtain ⟨xs, m', hn, _, hl, hlen, hf⟩ := DataW.trod_array hu h
      obtain ⟨ls, i1, i2, i3, i4⟩ := open_items (w := w) (e := e) (cs := cs) n 0 (by rw [hl, hc, Nat.zero_add]) fun i _ hi => by
        have := hf i (by omega)
        have hlt : i < xs.length := by omega
        rw [List.getElem?_eq_getElem hlt] at this
        exact open_cells d e m' _ _ hpe this
      rw [Nat.zero_mul, List.drop_zero] at i2 i4
      exact ⟨ls.flatten, i2, .array hu i1 i3, by rw [← (i2 fun _ => False).1, hl], fun h => (by rw [hag hu] at h; cases h), by rw [hag hu]; rfl, i4⟩
    · cases hp

/-- an argument: what it reads as -/
theorem open_arg {base : Nat} {r : Reach} {d : Nat} {t : TypeId} {v : Value} {D : DataW H} {p : List MemPlace} (hp : plainT P d t = true) (hv : Value.okWide P w r base t v) (h : DataW.Trod enc P w 0 spare held t v D p) :
    ∃ (x : V), RC w (fun _ => False) (Fresh w fun _ => False) false v x ∧ TyV P t x.cells ∧ FormV P t x := by
  obtain ⟨fuel, hf⟩ := h
  obtain ⟨l, h1, h2, h3, h4, h5, h6⟩ := open_cells d t fuel v.cells.toList _ hp hf
  have h1' := h1 (Fresh w fun _ => False)
  obtain ⟨ag, hag⟩ := Option.isSome_iff_exists.1 h5
  have hu : ∃ dd, P.underlying t = some dd ∧ aggD dd = ag := by
    unfold isAggB at hag
    obtain ⟨dd, h7, h8⟩ := Option.map_eq_some_iff.1 hag
    refine ⟨dd, h7, ?_⟩
    rw [← h8]; cases dd <;> rfl
  obtain ⟨dd, hdd, hda⟩ := hu
  cases ag with
  | true =>
    have hva : ∃ cs : Array Value, v = .agg cs := by
      unfold Value.okWide at hv
      rw [hdd] at hv
      cases dd <;> simp [aggD] at hda
      · obtain ⟨cs, rfl, _⟩ := hv; exact ⟨cs, rfl⟩
      · obtain ⟨cs, rfl, _⟩ := hv; exact ⟨cs, rfl⟩
    obtain ⟨cs, rfl⟩ := hva
    refine ⟨.agg l, ?_, h2, fun _ => rfl, fun h => by rw [hag] at h; cases h⟩
    have := rc_agg (w := w) _ _ h1'
    simpa [Value.cells] using this
  | false =>
    obtain ⟨y, rfl, hy⟩ := h4 hag
    obtain ⟨u, us, hus, hr, hnil⟩ := h1'.uncons
    have := hnil.nil_r
    subst this
    have hvu : v = u := by
      have h1u := h6 u (by rw [hus]; simp)
      cases v with
      | agg cs =>
        exfalso
        unfold Value.okWide Cell.okWide at hv
        rw [hdd] at hv
        cases dd <;> simp [aggD, Cell.ok] at hda hv
      | _ => simp [Value.cells] at hus; exact hus
    subst hvu
    exact ⟨y, hr, by rw [hy]; exact h2, fun h => (by rw [hag] at h; cases h), fun _ => hy⟩
theorem TyV.int_inv {t : TypeId} {k : IntKind} {l : List V} (ht : P.underlying t = some (.int k)) (h : TyV P t l) : ∃ n, l = [.s (.int k n)] ∧ (Lit.int k n).wf = true := by
  cases h with
  | int ht2 hw => rw [ht] at ht2; cases ht2; exact ⟨_, rfl, hw⟩
  | bool ht2 => rw [ht] at ht2; cases ht2
  | str ht2 hl => rw [ht] at ht2; cases ht2
  | nil ht2 => rw [ht] at ht2; cases ht2
  | lst ht2 hl hh ha => rw [ht] at ht2; cases ht2
  | struct ht2 hl hh => rw [ht] at ht2; cases ht2
  | array ht2 hl hh => rw [ht] at ht2; cases ht2
theorem TyV.slice_inv {t : TypeId} {e : TypeId} {l : List V} (ht : P.underlying t = some (.slice e)) (h : TyV P t l) : l = [.s (.slice none 0 0)] ∨ ∃ m, l = [.lst false (P.cellsOf e) m] ∧ m.length ≤ maxLen ∧ (∀ x ∈ m, TyV P e x.cells) ∧ ∀ x ∈ m, FormV P e x := by
  cases h with
  | int ht2 hw => rw [ht] at ht2; cases ht2
  | bool ht2 => rw [ht] at ht2; cases ht2
  | str ht2 hl => rw [ht] at ht2; cases ht2
  | nil ht2 => rw [ht] at ht2; cases ht2; exact .inl rfl
  | lst ht2 hl hh ha => rw [ht] at ht2; cases ht2; exact .inr ⟨_, rfl, hl, hh, ha⟩
  | struct ht2 hl hh => rw [ht] at ht2; cases ht2
  | array ht2 hl hh => rw [ht] at ht2; cases ht2
theorem TyV.struct_inv {t : TypeId} {fs : Array Field} {l : List V} (ht : P.underlying t = some (.struct fs)) (h : TyV P t l) : ∃ ls : List (List V), l = ls.flatten ∧ ls.length = fs.size ∧ ∀ (i : Nat) (f : Field) (l : List V), fs[i]? = some f → ls[i]? = some l → TyV P f.type l := by
  cases h with
  | int ht2 hw => rw [ht] at ht2; cases ht2
  | bool ht2 => rw [ht] at ht2; cases ht2
  | str ht2 hl => rw [ht] at ht2; cases ht2
  | nil ht2 => rw [ht] at ht2; cases ht2
  | lst ht2 hl hh ha => rw [ht] at ht2; cases ht2
  | struct ht2 hl hh => rw [ht] at ht2; cases ht2; exact ⟨_, rfl, hl, hh⟩
  | array ht2 hl hh => rw [ht] at ht2; cases ht2
theorem TyV.array_inv {t : TypeId} {n : Nat} {e : TypeId} {l : List V} (ht : P.underlying t = some (.array n e)) (h : TyV P t l) : ∃ ls : List (List V), l = ls.flatten ∧ ls.length = n ∧ ∀ l ∈ ls, TyV P e l := by
  cases h with
  | int ht2 hw => rw [ht] at ht2; cases ht2
  | bool ht2 => rw [ht] at ht2; cases ht2
  | str ht2 hl => rw [ht] at ht2; cases ht2
  | nil ht2 => rw [ht] at ht2; cases ht2
  | lst ht2 hl hh ha => rw [ht] at ht2; cases ht2
  | struct ht2 hl hh => rw [ht] at ht2; cases ht2
  | array ht2 hl hh => rw [ht] at ht2; cases ht2; exact ⟨_, rfl, hl, hh⟩
end
end Go.Proofs.YtkfmecmmbnehjaaGreat
