/-
The reference's right instructions and targets by the plain reckoning. No condition.
-/
import Derived.Test.YtgamljjoehncbaaO1
namespace Go.Proofs.Ytgamljjoehncbaa
set_option linter.unusedSimpArgs false
set_option linter.unusedVariables false

def cImg1 : Orc := cImg0
theorem spHas_mv : spHas.mv = [] := rfl
theorem spHas_fn (f : Int) : spHas.fn [.s (.int .i64 f)] = some (.tup [.s (.bool (hasDB f)), .s (.bool (hasAB f)), .s (.bool (hasBB f)), .s (.bool (hasImmB f))]) := rfl
theorem spReg_mv : spReg.mv = [] := rfl
theorem spReg_fn (n : Int) (b : Bool) : spReg.fn [.s (.int .i64 n), .s (.bool b)] = some (.s (.bool (regB n b))) := rfl

/-- a branch that leads out of the code -/
def badI (len : Nat) (n : Nat) (i : Ins) : Bool := (form i.op == 6 || form i.op == 7) && (decide ((n : Int) + i.imm < 0) || decide ((len : Int) ≤ n + i.imm))
def badAt (p : Prg) (n : Nat) : Bool := match p.code[n]? with
  | some i => badI p.code.length n i
  | none => false
def targsB (p : Prg) : Bool := (List.range p.code.length).any (badAt p)
def targs (p : Prg) : Int := if targsB p then 4 else 0
theorem targs_bad {p : Prg} {k : Nat} {i : Ins} (h : p.code[k]? = some i) (hb : badI p.code.length k i = true) : targs p = 4 := by
  have hk : k < p.code.length := (List.getElem?_eq_some_iff.1 h).1
  unfold targs targsB
  rw [if_pos]
  exact List.any_eq_true.2 ⟨k, by simpa using hk, by simp [badAt, h, hb]⟩
theorem any_succ {p : Prg} {k : Nat} {i : Ins} (h : p.code[k]? = some i) (hb : badI p.code.length k i = false) (ha : (List.range k).any (badAt p) = false) : (List.range (k + 1)).any (badAt p) = false := by
  rw [List.range_succ, List.any_append, ha]
  simp [badAt, h, hb]

/-- the numbers in an instruction are of their kind -/
def insOk (i : Ins) : Bool := decide (-1000000000 ≤ i.imm) && decide (i.imm ≤ 1000000000)
def spTargets : Spec := ⟨[], fun xs => match xs with
  | [x] => (prgOf x).bind fun p => if p.code.length ≤ 1000000000 then some (.s (.int .i64 (targs p))) else none
  | _ => none⟩

def cImg2 : Orc := cImg1
theorem spTarget_mv : spTarget.mv = [] := rfl

def targI (p : Prg) (s : S) : Prop :=
  s.env 1 = .ptr 1 1 0 ∧ s.st 1 = ⟨1, .box [.lst false 5 (p.code.map Ins.v), .s (.int .i64 p.size), .lst false 1 (p.data.map u8v)]⟩ ∧ s.env 8 = .lst false 5 (p.code.map Ins.v) ∧ s.env 9 = .s (.int .i64 p.code.length) ∧
  ∃ k : Nat, s.env 10 = .s (.int .i64 k) ∧ k ≤ p.code.length ∧ (List.range k).any (badAt p) = false

def rT (len : Nat) (n : Int) (i : Ins) : Int :=
  if (form i.op = 6 ∨ form i.op = 7) ∧ -8192 ≤ i.imm ∧ i.imm ≤ 8191 ∧ 0 ≤ n + i.imm ∧ n + i.imm < len then n + i.imm else -1
def spRTarget : Spec := ⟨[], fun xs => match xs with
  | [x, .s (.int .i64 n)] => (prgOf x).bind fun p => if 0 ≤ n ∧ p.code.length ≤ 1000000000 then (p.code[n.toNat]?).bind fun i => some (.s (.int .i64 (rT p.code.length n i))) else none
  | _ => none⟩

def spRTargets : Spec := ⟨[], fun xs => match xs with
  | [x] => (prgOf x).bind fun p => if p.code.length ≤ 8000 then some (.s (.int .i64 (targs p))) else none
  | _ => none⟩
def cImg3 : Orc := cImg2
theorem spRTarget_mv : spRTarget.mv = [] := rfl

def rtargI (p : Prg) (s : S) : Prop :=
  s.env 1 = .ptr 1 1 0 ∧ s.st 1 = ⟨1, .box [.lst false 5 (p.code.map Ins.v), .s (.int .i64 p.size), .lst false 1 (p.data.map u8v)]⟩ ∧
  ∃ k : Nat, s.env 3 = .s (.int .i64 k) ∧ k ≤ p.code.length ∧ (List.range k).any (badAt p) = false

def headB (p : Prg) : Bool := decide (1 ≤ (p.code.length : Int)) && decide ((p.code.length : Int) ≤ 2000) && decide (0 ≤ p.size) && decide (p.size ≤ 65536) && decide ((p.data.length : Int) ≤ p.size)
def rightP (p : Prg) : Bool := headB p && p.code.all rightB && !targsB p
def spRightP : Spec := ⟨[], fun xs => match xs with
  | [x] => (prgOf x).bind fun p => some (.s (.bool (rightP p)))
  | _ => none⟩
def cImg4 : Orc := cImg3
theorem spRTargets_mv : spRTargets.mv = [] := rfl

def rpI (p : Prg) (s : S) : Prop :=
  s.env 1 = .ptr 1 1 0 ∧ s.st 1 = ⟨1, .box [.lst false 5 (p.code.map Ins.v), .s (.int .i64 p.size), .lst false 1 (p.data.map u8v)]⟩ ∧
  ∃ k : Nat, s.env 3 = .s (.int .i64 k) ∧ k ≤ p.code.length ∧ (p.code.take k).all rightB = true

end Go.Proofs.Ytgamljjoehncbaa
