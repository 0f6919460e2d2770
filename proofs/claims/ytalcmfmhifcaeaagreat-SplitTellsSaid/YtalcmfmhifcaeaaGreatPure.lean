/-
Instructions and words as plain numbers: what may be, how it is written and read. No condition.
-/
import Derived.Test.YtalcmfmhifcaeaaGreatLib
namespace Go.Proofs.YtalcmfmhifcaeaaGreat
set_option linter.unusedSimpArgs false
set_option linter.unusedVariables false
open Go.RowKit

-- from XIsa
structure Ins where
  op : Int
  d : Int
  a : Int
  b : Int
  imm : Int
  deriving DecidableEq

-- from XIsa
def Ins.val (i : Ins) : Value := .agg #[.int .i64 i.op, .int .i64 i.d, .int .i64 i.a, .int .i64 i.b, .int .i64 i.imm]

-- from XIsa
def form (op : Int) : Int :=
  if op < 1 then 0 else if 41 < op then 0 else if op ≤ 16 then 1 else if op ≤ 24 then 2 else if op = 25 then 3 else if op ≤ 30 then 4 else if op ≤ 33 then 5 else if op ≤ 39 then 6 else if op = 40 then 7 else 8

-- from XIsa
def hasDB (f : Int) : Bool := decide (1 ≤ f) && decide (f ≤ 4)

-- from XIsa
def hasAB (f : Int) : Bool := f == 1 || f == 2 || f == 4 || f == 5 || f == 6

-- from XIsa
def hasBB (f : Int) : Bool := f == 1 || f == 5 || f == 6

-- from XIsa
def hasImmB (f : Int) : Bool := decide (2 ≤ f) && decide (f ≤ 7)

-- from XIsa
def withinB (n : Int) (has : Bool) (lo hi : Int) : Bool := if has then decide (lo ≤ n) && decide (n ≤ hi) else n == 0

-- from XIsa
def shiftB (op : Int) : Bool := op == 22 || op == 23 || op == 24

-- from XIsa
def loB (op : Int) : Int := if shiftB op then 0 else -8192

-- from XIsa
def hiB (op : Int) : Int := if shiftB op then 31 else 8191

-- from XIsa
def rightB (i : Ins) : Bool :=
  decide (0 < form i.op) && withinB i.d (hasDB (form i.op)) 0 15 && withinB i.a (hasAB (form i.op)) 0 15 && withinB i.b (hasBB (form i.op)) 0 15 && withinB i.imm (hasImmB (form i.op)) (loB i.op) (hiB i.op)


-- from XIsaB
structure Fit (i : Ins) : Prop where
  op0 : 1 ≤ i.op
  op1 : i.op ≤ 41
  d0 : 0 ≤ i.d
  d1 : i.d ≤ 15
  a0 : 0 ≤ i.a
  a1 : i.a ≤ 15
  b0 : 0 ≤ i.b
  b1 : i.b ≤ 15
  m0 : -8192 ≤ i.imm
  m1 : i.imm ≤ 8191


-- from XIsaB
theorem within_le {n : Int} {has : Bool} {lo hi : Int} (h : withinB n has lo hi = true) (h0 : lo ≤ 0) (h1 : 0 ≤ hi) : lo ≤ n ∧ n ≤ hi := by
  unfold withinB at h
  cases has
  · simp at h; omega
  · simp at h; omega

-- from XIsaB
theorem right_fit {i : Ins} (h : rightB i = true) : Fit i := by
  simp only [rightB, Bool.and_eq_true, decide_eq_true_eq] at h
  obtain ⟨⟨⟨⟨h0, h1⟩, h2⟩, h3⟩, h4⟩ := h
  have g1 := within_le h1 (by omega) (by omega)
  have g2 := within_le h2 (by omega) (by omega)
  have g3 := within_le h3 (by omega) (by omega)
  have l0 : loB i.op ≤ 0 ∧ -8192 ≤ loB i.op := by unfold loB; split <;> omega
  have l1 : 0 ≤ hiB i.op ∧ hiB i.op ≤ 8191 := by unfold hiB; split <;> omega
  have g4 := within_le h4 l0.1 l1.1
  have ho : 1 ≤ i.op ∧ i.op ≤ 41 := by
    unfold form at h0
    constructor
    · by_cases c : i.op < 1
      · rw [if_pos c] at h0; omega
      · omega
    · by_cases c : 41 < i.op
      · by_cases c' : i.op < 1
        · omega
        · rw [if_neg c', if_pos c] at h0; omega
      · omega
  exact ⟨ho.1, ho.2, g1.1, g1.2, g2.1, g2.2, g3.1, g3.2, by omega, by omega⟩


-- from XIsaB
/-- an instruction as a word -/
def encW (i : Ins) : Int := i.op * 67108864 + i.d * 4194304 + i.a * 262144 + i.b * 16384 + i.imm % 16384


-- from XIsaB
theorem or_hi (x y : Int) (i : Nat) (hx0 : 0 ≤ x) (hx : x % 2 ^ i = 0) (hy0 : 0 ≤ y) (hy : y < 2 ^ i) (hs : x + y < 4294967296) : bits BinOp.or .u32 x y = x + y := by
  rw [u32_or x y hx0 (by omega) hy0 (by omega)]
  obtain ⟨a, rfl⟩ := Int.eq_ofNat_of_zero_le hx0
  obtain ⟨b, rfl⟩ := Int.eq_ofNat_of_zero_le hy0
  rw [Int.toNat_natCast, Int.toNat_natCast, nat_join i a b (by exact_mod_cast hx) (by exact_mod_cast hy)]
  push_cast
  rfl

-- from XIsaB
theorem and_low (x : Int) (h0 : 0 ≤ x) (h1 : x < 4294967296) : bits BinOp.and .u32 x 16383 = x % 16384 := by
  rw [u32_and x 16383 h0 h1 (by omega) (by omega)]
  obtain ⟨a, rfl⟩ := Int.eq_ofNat_of_zero_le h0
  have : (16383 : Int).toNat = 2 ^ 14 - 1 := by decide
  rw [this, Int.toNat_natCast, Nat.and_two_pow_sub_one_eq_mod]
  omega

-- from XIsaB
theorem and_15 (x : Int) (h0 : 0 ≤ x) (h1 : x < 4294967296) : bits BinOp.and .u32 x 15 = x % 16 := by
  rw [u32_and x 15 h0 h1 (by omega) (by omega)]
  obtain ⟨a, rfl⟩ := Int.eq_ofNat_of_zero_le h0
  have : (15 : Int).toNat = 2 ^ 4 - 1 := by decide
  rw [this, Int.toNat_natCast, Nat.and_two_pow_sub_one_eq_mod]
  omega

-- from XIsaB
theorem enc_bits {op d a b imm : Int} (o0 : 1 ≤ op) (o1 : op ≤ 41) (d0 : 0 ≤ d) (d1 : d ≤ 15) (a0 : 0 ≤ a) (a1 : a ≤ 15) (b0 : 0 ≤ b) (b1 : b ≤ 15) :
    bits BinOp.or IntKind.u32 (bits BinOp.or IntKind.u32 (bits BinOp.or IntKind.u32 (bits BinOp.or IntKind.u32 (op * 67108864) (d * 4194304)) (a * 262144)) (b * 16384))
      (bits BinOp.and IntKind.u32 (imm % 4294967296) 16383) = encW ⟨op, d, a, b, imm⟩ := by
  rw [and_low _ (by omega) (by omega), or_hi (op * 67108864) (d * 4194304) 26 (by omega) (by omega) (by omega) (by omega) (by omega),
    or_hi (op * 67108864 + d * 4194304) (a * 262144) 22 (by omega) (by omega) (by omega) (by omega) (by omega),
    or_hi (op * 67108864 + d * 4194304 + a * 262144) (b * 16384) 18 (by omega) (by omega) (by omega) (by omega) (by omega),
    or_hi _ _ 14 (by omega) (by omega) (by omega) (by omega) (by omega)]
  unfold encW
  simp only
  omega


-- from XIsaB
/-- what Encode answers -/
def encT (i : Ins) : Int × Bool := if rightB i then (encW i, true) else (0, false)

-- from XIsaB
def regB (n : Int) (there : Bool) : Bool := n == 0 || (there && decide (0 < n) && decide (n ≤ 15))

-- from XIsaB
/-- what the reference says of an instruction -/
def refRightB (i : Ins) : Bool :=
  !(form i.op == 0) && regB i.d (hasDB (form i.op)) && regB i.a (hasAB (form i.op)) && regB i.b (hasBB (form i.op)) && (hasImmB (form i.op) || i.imm == 0) && (decide (loB i.op ≤ i.imm) && decide (i.imm ≤ hiB i.op))

-- from XIsaB
theorem regB_within (n : Int) (t : Bool) : regB n t = withinB n t 0 15 := by
  unfold regB withinB
  cases t
  · simp
  · rw [Bool.eq_iff_iff]
    simp
    omega

-- from XIsaB
theorem form_range (op : Int) : 0 ≤ form op ∧ form op ≤ 8 := by
  unfold form
  repeat' split
  all_goals omega

-- from XIsaB
theorem refRight_eq (i : Ins) : refRightB i = rightB i := by
  have hf := form_range i.op
  have l0 : loB i.op ≤ 0 := by unfold loB; split <;> omega
  have l1 : 0 ≤ hiB i.op := by unfold hiB; split <;> omega
  unfold refRightB rightB
  rw [regB_within, regB_within, regB_within]
  have e0 : (!(form i.op == 0)) = decide (0 < form i.op) := by rw [Bool.eq_iff_iff]; simp; omega
  have e1 : ((hasImmB (form i.op) || i.imm == 0) && (decide (loB i.op ≤ i.imm) && decide (i.imm ≤ hiB i.op))) = withinB i.imm (hasImmB (form i.op)) (loB i.op) (hiB i.op) := by
    unfold withinB
    cases hasImmB (form i.op)
    · rw [Bool.eq_iff_iff]
      simp
      omega
    · simp
  rw [e0, Bool.and_assoc, e1]


-- from XIsaC
def immOf (w : Int) : Int := if 8192 ≤ w % 16384 then w % 16384 - 16384 else w % 16384

-- from XIsaC
/-- the parts of a word -/
def decI (w : Int) : Ins := ⟨w / 67108864, w / 4194304 % 16, w / 262144 % 16, w / 16384 % 16, immOf w⟩

-- from XIsaC
def zeroI : Ins := ⟨0, 0, 0, 0, 0⟩

-- from XIsaC
def decT (w : Int) : Ins × Bool := if rightB (decI w) then (decI w, true) else (zeroI, false)


-- from XIsaC
theorem enc_dec (w : Int) (h0 : 0 ≤ w) (h1 : w < 4294967296) : encW (decI w) = w := by
  unfold encW decI immOf
  simp only
  split <;> omega

-- from XIsaC
theorem dec_enc (i : Ins) (h : Fit i) : decI (encW i) = i := by
  obtain ⟨o0, o1, d0, d1, a0, a1, b0, b1, m0, m1⟩ := h
  obtain ⟨op, d, a, b, imm⟩ := i
  simp only at o0 o1 d0 d1 a0 a1 b0 b1 m0 m1
  unfold decI encW immOf
  simp only [Ins.mk.injEq]
  refine ⟨?_, ?_, ?_, ?_, ?_⟩
  · omega
  · omega
  · omega
  · omega
  · split <;> omega

-- from XIsaC
theorem enc_range (i : Ins) (h : Fit i) : 0 ≤ encW i ∧ encW i < 4294967296 := by
  obtain ⟨o0, o1, d0, d1, a0, a1, b0, b1, m0, m1⟩ := h
  unfold encW
  omega


-- from XIsaC
/-- the registers that are read -/
def readsL (i : Ins) : List Int :=
  if rightB i then (if hasAB (form i.op) && !(i.a == 0) then [i.a] else []) ++ (if hasBB (form i.op) && !(i.b == 0) then [i.b] else []) else []

-- from XIsaC
def writesI (i : Ins) : Int := if rightB i then (if hasDB (form i.op) then i.d else 0) else 0

-- from XIsaC
theorem writes_d (i : Ins) (h : rightB i = true) : writesI i = i.d := by
  unfold writesI
  rw [if_pos h]
  cases hd : hasDB (form i.op) with
  | true => rfl
  | false =>
    simp only [rightB, Bool.and_eq_true] at h
    have := h.1.1.1.2
    rw [hd] at this
    simp [withinB] at this
    simp [this]


-- from XIsaL2
theorem encT_right {i : Ins} (h : rightB i = true) : encT i = (encW i, true) := by unfold encT; rw [if_pos h]

-- from XIsaL2
theorem encT_wrong {i : Ins} (h : rightB i = false) : encT i = (0, false) := by unfold encT; rw [h]; rfl

-- from XIsaL2
theorem decT_enc {i : Ins} (h : rightB i = true) : decT (encW i) = (i, true) := by
  unfold decT
  rw [dec_enc i (right_fit h), if_pos h]

-- from XIsaL2
theorem enc_inj {i k : Ins} (hi : rightB i = true) (hk : rightB k = true) (h : encW i = encW k) : i = k := by
  rw [← dec_enc i (right_fit hi), h, dec_enc k (right_fit hk)]


-- from XIsaL4
theorem xor_turn (e : Int) (k : Nat) (h0 : 0 ≤ e) (h1 : e < 4294967296) (hk : k ≤ 31) : 0 ≤ bits BinOp.xor .u32 e (2 ^ k % 4294967296) ∧ bits BinOp.xor .u32 e (2 ^ k % 4294967296) < 4294967296 ∧ bits BinOp.xor .u32 e (2 ^ k % 4294967296) ≠ e := by
  have hp : (2 : Nat) ^ k < 4294967296 := Nat.lt_of_le_of_lt (Nat.pow_le_pow_right (by omega) hk) (by omega)
  have hpos : 0 < (2 : Nat) ^ k := Nat.pow_pos (by omega)
  have e2 : (2 : Int) ^ k % 4294967296 = ((2 ^ k : Nat) : Int) := by
    have : (2 : Int) ^ k = ((2 ^ k : Nat) : Int) := by push_cast; rfl
    rw [this]
    omega
  obtain ⟨a, rfl⟩ := Int.eq_ofNat_of_zero_le h0
  rw [e2, u32_xor_nat a (2 ^ k) (by omega) hp]
  have hx : a ^^^ 2 ^ k < 2 ^ 32 := Nat.xor_lt_two_pow (by omega) (by omega)
  refine ⟨by omega, by omega, fun h => ?_⟩
  have h' : a ^^^ 2 ^ k = a := by omega
  have : 2 ^ k = 0 := by
    calc 2 ^ k = (a ^^^ a) ^^^ 2 ^ k := by rw [Nat.xor_self, Nat.zero_xor]
      _ = a ^^^ (a ^^^ 2 ^ k) := Nat.xor_assoc _ _ _
      _ = a ^^^ a := by rw [h']
      _ = 0 := Nat.xor_self _
  omega


end Go.Proofs.YtalcmfmhifcaeaaGreat
