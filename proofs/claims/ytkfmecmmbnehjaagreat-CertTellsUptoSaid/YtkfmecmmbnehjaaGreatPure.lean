/-
Instructions and words as plain numbers: what may be, how it is written and read. No condition.
-/
import Derived.Test.YtkfmecmmbnehjaaGreatLib
namespace Go.Proofs.YtkfmecmmbnehjaaGreat
set_option linter.unusedSimpArgs false
set_option linter.unusedVariables false
open Go.RowKit

-- from XIsa
structure Ins where
  op : Int
  d : Int
  a : Int
  b : Int
  imm : Int
  deriving DecidableEq

-- from XIsa
def Ins.val (i : Ins) : Value := .agg #[.int .i64 i.op, .int .i64 i.d, .int .i64 i.a, .int .i64 i.b, .int .i64 i.imm]

-- from XIsa
def form (op : Int) : Int :=
  if op < 1 then 0 else if 41 < op then 0 else if op ≤ 16 then 1 else if op ≤ 24 then 2 else if op = 25 then 3 else if op ≤ 30 then 4 else if op ≤ 33 then 5 else if op ≤ 39 then 6 else if op = 40 then 7 else 8

-- from XIsa
def hasDB (f : Int) : Bool := decide (1 ≤ f) && decide (f ≤ 4)

-- from XIsa
def hasAB (f : Int) : Bool := f == 1 || f == 2 || f == 4 || f == 5 || f == 6

-- from XIsa
def hasBB (f : Int) : Bool := f == 1 || f == 5 || f == 6

-- from XIsa
def hasImmB (f : Int) : Bool := decide (2 ≤ f) && decide (f ≤ 7)

-- from XIsa
def withinB (n : Int) (has : Bool) (lo hi : Int) : Bool := if has then decide (lo ≤ n) && decide (n ≤ hi) else n == 0

-- from XIsa
def shiftB (op : Int) : Bool := op == 22 || op == 23 || op == 24

-- from XIsa
def loB (op : Int) : Int := if shiftB op then 0 else -8192

-- from XIsa
def hiB (op : Int) : Int := if shiftB op then 31 else 8191

-- from XIsa
def rightB (i : Ins) : Bool :=
  decide (0 < form i.op) && withinB i.d (hasDB (form i.op)) 0 15 && withinB i.a (hasAB (form i.op)) 0 15 && withinB i.b (hasBB (form i.op)) 0 15 && withinB i.imm (hasImmB (form i.op)) (loB i.op) (hiB i.op)


-- from XIsaB
structure Fit (i : Ins) : Prop where
  op0 : 1 ≤ i.op
  op1 : i.op ≤ 41
  d0 : 0 ≤ i.d
  d1 : i.d ≤ 15
  a0 : 0 ≤ i.a
  a1 : i.a ≤ 15
  b0 : 0 ≤ i.b
  b1 : i.b ≤ 15
  m0 : -8192 ≤ i.imm
  m1 : i.imm ≤ 8191


-- from XIsaB
theorem within_le {n : Int} {has : Bool} {lo hi : Int} (h : withinB n has lo hi = true) (h0 : lo ≤ 0) (h1 : 0 ≤ hi) : lo ≤ n ∧ n ≤ hi := by
  unfold withinB at h
  cases has
  · simp at h; omega
  · simp at h; omega

-- from XIsaB
theorem right_fit {i : Ins} (h : rightB i = true) : Fit i := by
  simp only [rightB, Bool.and_eq_true, decide_eq_true_eq] at h
  obtain ⟨⟨⟨⟨h0, h1⟩, h2⟩, h3⟩, h4⟩ := h
  have g1 := within_le h1 (by omega) (by omega)
  have g2 := within_le h2 (by omega) (by omega)
  have g3 := within_le h3 (by omega) (by omega)
  have l0 : loB i.op ≤ 0 ∧ -8192 ≤ loB i.op := by unfold loB; split <;> omega
  have l1 : 0 ≤ hiB i.op ∧ hiB i.op ≤ 8191 := by unfold hiB; split <;> omega
  have g4 := within_le h4 l0.1 l1.1
  have ho : 1 ≤ i.op ∧ i.op ≤ 41 := by
    unfold form at h0
    constructor
    · by_cases c : i.op < 1
      · rw [if_pos c] at h0; omega
      · omega
    · by_cases c : 41 < i.op
      · by_cases c' : i.op < 1
        · omega
        · rw [if_neg c', if_pos c] at h0; omega
      · omega
  exact ⟨ho.1, ho.2, g1.1, g1.2, g2.1, g2.2, g3.1, g3.2, by omega, by omega⟩


-- from XIsaB
def regB (n : Int) (there : Bool) : Bool := n == 0 || (there && decide (0 < n) && decide (n ≤ 15))

-- from XIsaB
/-- what the reference says of an instruction -/
def refRightB (i : Ins) : Bool :=
  !(form i.op == 0) && regB i.d (hasDB (form i.op)) && regB i.a (hasAB (form i.op)) && regB i.b (hasBB (form i.op)) && (hasImmB (form i.op) || i.imm == 0) && (decide (loB i.op ≤ i.imm) && decide (i.imm ≤ hiB i.op))

-- from XIsaB
theorem regB_within (n : Int) (t : Bool) : regB n t = withinB n t 0 15 := by
  unfold regB withinB
  cases t
  · simp
  · rw [Bool.eq_iff_iff]
    simp
    omega

-- from XIsaB
theorem form_range (op : Int) : 0 ≤ form op ∧ form op ≤ 8 := by
  unfold form
  repeat' split
  all_goals omega

-- from XIsaB
theorem refRight_eq (i : Ins) : refRightB i = rightB i := by
  have hf := form_range i.op
  have l0 : loB i.op ≤ 0 := by unfold loB; split <;> omega
  have l1 : 0 ≤ hiB i.op := by unfold hiB; split <;> omega
  unfold refRightB rightB
  rw [regB_within, regB_within, regB_within]
  have e0 : (!(form i.op == 0)) = decide (0 < form i.op) := by rw [Bool.eq_iff_iff]; simp; omega
  have e1 : ((hasImmB (form i.op) || i.imm == 0) && (decide (loB i.op ≤ i.imm) && decide (i.imm ≤ hiB i.op))) = withinB i.imm (hasImmB (form i.op)) (loB i.op) (hiB i.op) := by
    unfold withinB
    cases hasImmB (form i.op)
    · rw [Bool.eq_iff_iff]
      simp
      omega
    · simp
  rw [e0, Bool.and_assoc, e1]


-- from XIsaC
/-- the registers that are read -/
def readsL (i : Ins) : List Int :=
  if rightB i then (if hasAB (form i.op) && !(i.a == 0) then [i.a] else []) ++ (if hasBB (form i.op) && !(i.b == 0) then [i.b] else []) else []

end Go.Proofs.YtkfmecmmbnehjaaGreat
