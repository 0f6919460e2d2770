/-
Package isa's Encode, Decode, Reads, Writes and their references: plain functions of five numbers, for any arguments.
-/
import Derived.Test.YtegalldldcaocaaIsa
namespace Go.Proofs.Ytegalldldcaocaa
open Go.RowKit

structure Fit (i : Ins) : Prop where
  op0 : 1 ≤ i.op
  op1 : i.op ≤ 41
  d0 : 0 ≤ i.d
  d1 : i.d ≤ 15
  a0 : 0 ≤ i.a
  a1 : i.a ≤ 15
  b0 : 0 ≤ i.b
  b1 : i.b ≤ 15
  m0 : -8192 ≤ i.imm
  m1 : i.imm ≤ 8191

theorem within_le {n : Int} {has : Bool} {lo hi : Int} (h : withinB n has lo hi = true) (h0 : lo ≤ 0) (h1 : 0 ≤ hi) : lo ≤ n ∧ n ≤ hi := by
  unfold withinB at h
  cases has
  · simp at h; omega
  · simp at h; omega
theorem right_fit {i : Ins} (h : rightB i = true) : Fit i := by
  simp only [rightB, Bool.and_eq_true, decide_eq_true_eq] at h
  obtain ⟨⟨⟨⟨h0, h1⟩, h2⟩, h3⟩, h4⟩ := h
  have g1 := within_le h1 (by omega) (by omega)
  have g2 := within_le h2 (by omega) (by omega)
  have g3 := within_le h3 (by omega) (by omega)
  have l0 : loB i.op ≤ 0 ∧ -8192 ≤ loB i.op := by unfold loB; split <;> omega
  have l1 : 0 ≤ hiB i.op ∧ hiB i.op ≤ 8191 := by unfold hiB; split <;> omega
  have g4 := within_le h4 l0.1 l1.1
  have ho : 1 ≤ i.op ∧ i.op ≤ 41 := by
    unfold form at h0
    constructor
    · by_cases c : i.op < 1
      · rw [if_pos c] at h0; omega
      · omega
    · by_cases c : 41 < i.op
      · by_cases c' : i.op < 1
        · omega
        · rw [if_neg c', if_pos c] at h0; omega
      · omega
  exact ⟨ho.1, ho.2, g1.1, g1.2, g2.1, g2.2, g3.1, g3.2, by omega, by omega⟩

/-- an instruction as a word -/
def encW (i : Ins) : Int := i.op * 67108864 + i.d * 4194304 + i.a * 262144 + i.b * 16384 + i.imm % 16384

theorem ret_tup2 {k : IntKind} {a b : Int} {x y : Bool} (h : a = b) (g : x = y) : Ending.returned (.tuple #[.int k a, .bool x]) = .returned (.tuple #[.int k b, .bool y]) := by rw [h, g]

theorem or_hi (x y : Int) (i : Nat) (hx0 : 0 ≤ x) (hx : x % 2 ^ i = 0) (hy0 : 0 ≤ y) (hy : y < 2 ^ i) (hs : x + y < 4294967296) : bits BinOp.or .u32 x y = x + y := by
  rw [u32_or x y hx0 (by omega) hy0 (by omega)]
  obtain ⟨a, rfl⟩ := Int.eq_ofNat_of_zero_le hx0
  obtain ⟨b, rfl⟩ := Int.eq_ofNat_of_zero_le hy0
  rw [Int.toNat_natCast, Int.toNat_natCast, nat_join i a b (by exact_mod_cast hx) (by exact_mod_cast hy)]
  push_cast
  rfl
theorem and_low (x : Int) (h0 : 0 ≤ x) (h1 : x < 4294967296) : bits BinOp.and .u32 x 16383 = x % 16384 := by
  rw [u32_and x 16383 h0 h1 (by omega) (by omega)]
  obtain ⟨a, rfl⟩ := Int.eq_ofNat_of_zero_le h0
  have : (16383 : Int).toNat = 2 ^ 14 - 1 := by decide
  rw [this, Int.toNat_natCast, Nat.and_two_pow_sub_one_eq_mod]
  omega
theorem and_15 (x : Int) (h0 : 0 ≤ x) (h1 : x < 4294967296) : bits BinOp.and .u32 x 15 = x % 16 := by
  rw [u32_and x 15 h0 h1 (by omega) (by omega)]
  obtain ⟨a, rfl⟩ := Int.eq_ofNat_of_zero_le h0
  have : (15 : Int).toNat = 2 ^ 4 - 1 := by decide
  rw [this, Int.toNat_natCast, Nat.and_two_pow_sub_one_eq_mod]
  omega
theorem enc_bits {op d a b imm : Int} (o0 : 1 ≤ op) (o1 : op ≤ 41) (d0 : 0 ≤ d) (d1 : d ≤ 15) (a0 : 0 ≤ a) (a1 : a ≤ 15) (b0 : 0 ≤ b) (b1 : b ≤ 15) :
    bits BinOp.or IntKind.u32 (bits BinOp.or IntKind.u32 (bits BinOp.or IntKind.u32 (bits BinOp.or IntKind.u32 (op * 67108864) (d * 4194304)) (a * 262144)) (b * 16384))
      (bits BinOp.and IntKind.u32 (imm % 4294967296) 16383) = encW ⟨op, d, a, b, imm⟩ := by
  rw [and_low _ (by omega) (by omega), or_hi (op * 67108864) (d * 4194304) 26 (by omega) (by omega) (by omega) (by omega) (by omega),
    or_hi (op * 67108864 + d * 4194304) (a * 262144) 22 (by omega) (by omega) (by omega) (by omega) (by omega),
    or_hi (op * 67108864 + d * 4194304 + a * 262144) (b * 16384) 18 (by omega) (by omega) (by omega) (by omega) (by omega),
    or_hi _ _ 14 (by omega) (by omega) (by omega) (by omega) (by omega)]
  unfold encW
  simp only
  omega

set_option maxHeartbeats 1000000 in
theorem encode_yes (op d a b imm : Int) (h : rightB ⟨op, d, a, b, imm⟩ = true) (w : World) : Calls Try.prog 11 #[.agg #[.int .i64 op, .int .i64 d, .int .i64 a, .int .i64 b, .int .i64 imm]] w fun e w' => e = .returned (.tuple #[.int .u32 (encW ⟨op, d, a, b, imm⟩), .bool true]) ∧ Below w.heap.size w w' := by
  obtain ⟨o0, o1, d0, d1, a0, a1, b0, b1, m0, m1⟩ := right_fit h
  simp only at o0 o1 d0 d1 a0 a1 b0 b1 m0 m1
  have hr := fun w => right_any ⟨op, d, a, b, imm⟩ w
  rw [h] at hr
  unfold Ins.val at hr
  have HR := hid hr
  clear hr h
  go_enter Try.func11, Try.ntmps11
  go_wp2_with fail
  refine (HR.out _).mono ?_
  rintro e w1 ⟨rfl, hb⟩
  obtain ⟨hc, hf⟩ := bcell hb
  go_wp2
  go_ret2
  exact ⟨ret_tup2 (enc_bits o0 o1 d0 d1 a0 a1 b0 b1) rfl, below_tr (below_al (Below.refl _ _) _) hb⟩

theorem encode_no (op d a b imm : Int) (h : rightB ⟨op, d, a, b, imm⟩ = false) (w : World) : Calls Try.prog 11 #[.agg #[.int .i64 op, .int .i64 d, .int .i64 a, .int .i64 b, .int .i64 imm]] w fun e w' => e = .returned (.tuple #[.int .u32 0, .bool false]) ∧ Below w.heap.size w w' := by
  have hr := fun w => right_any ⟨op, d, a, b, imm⟩ w
  rw [h] at hr
  unfold Ins.val at hr
  have HR := hid hr
  clear hr h
  go_enter Try.func11, Try.ntmps11
  go_wp2_with fail
  refine (HR.out _).mono ?_
  rintro e w1 ⟨rfl, hb⟩
  go_wp2
  go_ret2
  exact ⟨rfl, below_tr (below_al (Below.refl _ _) _) hb⟩

/-- what Encode answers -/
def encT (i : Ins) : Int × Bool := if rightB i then (encW i, true) else (0, false)
theorem encode_any (i : Ins) (w : World) : Calls Try.prog 11 #[i.val] w fun e w' => e = .returned (.tuple #[.int .u32 (encT i).1, .bool (encT i).2]) ∧ Below w.heap.size w w' := by
  obtain ⟨op, d, a, b, imm⟩ := i
  unfold encT
  cases h : rightB ⟨op, d, a, b, imm⟩ with
  | true => exact encode_yes op d a b imm h w
  | false => exact encode_no op d a b imm h w

theorem refForm_any (op : Int) (w : World) : Calls Try.prog 16 #[.int .i64 op] w fun e w' => e = .returned (.int .i64 (form op)) ∧ w = w' := by
  go_enter Try.func16, Try.ntmps16
  go_wp2
  all_goals
    go_ret
    refine ⟨ret_int ?_, rfl⟩
    go_light
    try simp only [beq_iff_eq, beq_eq_false_iff_ne, ne_eq] at *
    unfold form
    repeat' split
    all_goals first | rfl | (exfalso; omega)

theorem ret_4 {a b c d a' b' c' d' : Bool} (h1 : a = a') (h2 : b = b') (h3 : c = c') (h4 : d = d') : Ending.returned (.tuple #[.bool a, .bool b, .bool c, .bool d]) = .returned (.tuple #[.bool a', .bool b', .bool c', .bool d']) := by rw [h1, h2, h3, h4]

theorem refHas_any (f : Int) (w : World) : Calls Try.prog 29 #[.int .i64 f] w fun e w' => e = .returned (.tuple #[.bool (hasDB f), .bool (hasAB f), .bool (hasBB f), .bool (hasImmB f)]) ∧ w = w' := by
  cases e1 : (f == 1) with
  | true =>
    have E : hasDB f = true ∧ hasAB f = true ∧ hasBB f = true ∧ hasImmB f = false := by
      simp only [beq_iff_eq, beq_eq_false_iff_ne, ne_eq] at e1
      subst e1
      decide
    obtain ⟨E1, E2, E3, E4⟩ := E
    rw [E1, E2, E3, E4]
    clear E1 E2 E3 E4
    go_enter Try.func29, Try.ntmps29
    go_wp2
    exact bodyPost_ret (v := .tuple #[.bool true, .bool true, .bool true, .bool false]) (by simp [results, Try.results29, go_sem]) rfl ⟨rfl, rfl⟩
  | false =>
    cases e2 : (f == 2) with
    | true =>
      have E : hasDB f = true ∧ hasAB f = true ∧ hasBB f = false ∧ hasImmB f = true := by
        simp only [beq_iff_eq, beq_eq_false_iff_ne, ne_eq] at e2
        subst e2
        decide
      obtain ⟨E1, E2, E3, E4⟩ := E
      rw [E1, E2, E3, E4]
      clear E1 E2 E3 E4
      go_enter Try.func29, Try.ntmps29
      go_wp2
      exact bodyPost_ret (v := .tuple #[.bool true, .bool true, .bool false, .bool true]) (by simp [results, Try.results29, go_sem]) rfl ⟨rfl, rfl⟩
    | false =>
      cases e4 : (f == 4) with
      | true =>
        have E : hasDB f = true ∧ hasAB f = true ∧ hasBB f = false ∧ hasImmB f = true := by
          simp only [beq_iff_eq, beq_eq_false_iff_ne, ne_eq] at e4
          subst e4
          decide
        obtain ⟨E1, E2, E3, E4⟩ := E
        rw [E1, E2, E3, E4]
        clear E1 E2 E3 E4
        go_enter Try.func29, Try.ntmps29
        go_wp2
        exact bodyPost_ret (v := .tuple #[.bool true, .bool true, .bool false, .bool true]) (by simp [results, Try.results29, go_sem]) rfl ⟨rfl, rfl⟩
      | false =>
        cases e3 : (f == 3) with
        | true =>
          have E : hasDB f = true ∧ hasAB f = false ∧ hasBB f = false ∧ hasImmB f = true := by
            simp only [beq_iff_eq, beq_eq_false_iff_ne, ne_eq] at e3
            subst e3
            decide
          obtain ⟨E1, E2, E3, E4⟩ := E
          rw [E1, E2, E3, E4]
          clear E1 E2 E3 E4
          go_enter Try.func29, Try.ntmps29
          go_wp2
          exact bodyPost_ret (v := .tuple #[.bool true, .bool false, .bool false, .bool true]) (by simp [results, Try.results29, go_sem]) rfl ⟨rfl, rfl⟩
        | false =>
          cases e5 : (f == 5) with
          | true =>
            have E : hasDB f = false ∧ hasAB f = true ∧ hasBB f = true ∧ hasImmB f = true := by
              simp only [beq_iff_eq, beq_eq_false_iff_ne, ne_eq] at e5
              subst e5
              decide
            obtain ⟨E1, E2, E3, E4⟩ := E
            rw [E1, E2, E3, E4]
            clear E1 E2 E3 E4
            go_enter Try.func29, Try.ntmps29
            go_wp2
            exact bodyPost_ret (v := .tuple #[.bool false, .bool true, .bool true, .bool true]) (by simp [results, Try.results29, go_sem]) rfl ⟨rfl, rfl⟩
          | false =>
            cases e6 : (f == 6) with
            | true =>
              have E : hasDB f = false ∧ hasAB f = true ∧ hasBB f = true ∧ hasImmB f = true := by
                simp only [beq_iff_eq, beq_eq_false_iff_ne, ne_eq] at e6
                subst e6
                decide
              obtain ⟨E1, E2, E3, E4⟩ := E
              rw [E1, E2, E3, E4]
              clear E1 E2 E3 E4
              go_enter Try.func29, Try.ntmps29
              go_wp2
              exact bodyPost_ret (v := .tuple #[.bool false, .bool true, .bool true, .bool true]) (by simp [results, Try.results29, go_sem]) rfl ⟨rfl, rfl⟩
            | false =>
              cases e7 : (f == 7) with
              | true =>
                have E : hasDB f = false ∧ hasAB f = false ∧ hasBB f = false ∧ hasImmB f = true := by
                  simp only [beq_iff_eq, beq_eq_false_iff_ne, ne_eq] at e7
                  subst e7
                  decide
                obtain ⟨E1, E2, E3, E4⟩ := E
                rw [E1, E2, E3, E4]
                clear E1 E2 E3 E4
                go_enter Try.func29, Try.ntmps29
                go_wp2
                exact bodyPost_ret (v := .tuple #[.bool false, .bool false, .bool false, .bool true]) (by simp [results, Try.results29, go_sem]) rfl ⟨rfl, rfl⟩
              | false =>
                have E : hasDB f = false ∧ hasAB f = false ∧ hasBB f = false ∧ hasImmB f = false := by
                  simp only [beq_iff_eq, beq_eq_false_iff_ne, ne_eq] at e1 e2 e4 e3 e5 e6 e7
                  refine ⟨?_, ?_, ?_, ?_⟩
                  · simp [hasDB]; omega
                  · simp [hasAB]; omega
                  · simp [hasBB]; omega
                  · simp [hasImmB]; omega
                obtain ⟨E1, E2, E3, E4⟩ := E
                rw [E1, E2, E3, E4]
                clear E1 E2 E3 E4
                go_enter Try.func29, Try.ntmps29
                go_wp2
                exact bodyPost_ret (v := .tuple #[.bool false, .bool false, .bool false, .bool false]) (by simp [results, Try.results29, go_sem]) rfl ⟨rfl, rfl⟩

def regB (n : Int) (there : Bool) : Bool := n == 0 || (there && decide (0 < n) && decide (n ≤ 15))
theorem refReg_any (n : Int) (there : Bool) (w : World) : Calls Try.prog 30 #[.int .i64 n, .bool there] w fun e w' => e = .returned (.bool (regB n there)) ∧ w = w' := by
  cases hn : (n == 0) with
  | true =>
    go_enter Try.func30, Try.ntmps30
    go_wp2
    go_ret
    exact ⟨ret_bool (by simp [regB, hn]), rfl⟩
  | false =>
    cases there
    · go_enter Try.func30, Try.ntmps30
      go_wp2
      go_ret
      exact ⟨ret_bool (by simp [regB, hn]), rfl⟩
    · go_enter Try.func30, Try.ntmps30
      go_wp2
      all_goals
        go_ret
        refine ⟨ret_bool ?_, rfl⟩
        go_light
        simp [regB, *] <;> omega

/-- what the reference says of an instruction -/
def refRightB (i : Ins) : Bool :=
  !(form i.op == 0) && regB i.d (hasDB (form i.op)) && regB i.a (hasAB (form i.op)) && regB i.b (hasBB (form i.op)) && (hasImmB (form i.op) || i.imm == 0) && (decide (loB i.op ≤ i.imm) && decide (i.imm ≤ hiB i.op))
theorem regB_within (n : Int) (t : Bool) : regB n t = withinB n t 0 15 := by
  unfold regB withinB
  cases t
  · simp
  · rw [Bool.eq_iff_iff]
    simp
    omega
theorem form_range (op : Int) : 0 ≤ form op ∧ form op ≤ 8 := by
  unfold form
  repeat' split
  all_goals omega
theorem refRight_eq (i : Ins) : refRightB i = rightB i := by
  have hf := form_range i.op
  have l0 : loB i.op ≤ 0 := by unfold loB; split <;> omega
  have l1 : 0 ≤ hiB i.op := by unfold hiB; split <;> omega
  unfold refRightB rightB
  rw [regB_within, regB_within, regB_within]
  have e0 : (!(form i.op == 0)) = decide (0 < form i.op) := by rw [Bool.eq_iff_iff]; simp; omega
  have e1 : ((hasImmB (form i.op) || i.imm == 0) && (decide (loB i.op ≤ i.imm) && decide (i.imm ≤ hiB i.op))) = withinB i.imm (hasImmB (form i.op)) (loB i.op) (hiB i.op) := by
    unfold withinB
    cases hasImmB (form i.op)
    · rw [Bool.eq_iff_iff]
      simp
      omega
    · simp
  rw [e0, Bool.and_assoc, e1]

set_option maxHeartbeats 1000000 in
theorem refRight_n0 (op d a b imm : Int)  (h0 : (form op == 0) = true) (w : World) : Calls Try.prog 18 #[.agg #[.int .i64 op, .int .i64 d, .int .i64 a, .int .i64 b, .int .i64 imm]] w fun e w' => e = .returned (.bool (refRightB ⟨op, d, a, b, imm⟩)) ∧ Below w.heap.size w w' := by
  have E := hid (show refRightB ⟨op, d, a, b, imm⟩ = false by simp [refRightB, h0])
  go_enter Try.func18, Try.ntmps18
  go_wp2_with (first | (go_at_call 16; refine (refForm_any _ _).mono ?_; rintro e w' ⟨rfl, rfl⟩) | (go_at_call 29; refine (refHas_any _ _).mono ?_; rintro e w' ⟨rfl, rfl⟩) | (go_at_call 30; refine (refReg_any _ _ _).mono ?_; rintro e w' ⟨rfl, rfl⟩))
  go_ret
  exact ⟨ret_bool E.out.symm, below_al (Below.refl _ _) _⟩

set_option maxHeartbeats 1000000 in
theorem refRight_n1 (op d a b imm : Int) (h0 : (form op == 0) = false) (h1 : regB d (hasDB (form op)) = false) (w : World) : Calls Try.prog 18 #[.agg #[.int .i64 op, .int .i64 d, .int .i64 a, .int .i64 b, .int .i64 imm]] w fun e w' => e = .returned (.bool (refRightB ⟨op, d, a, b, imm⟩)) ∧ Below w.heap.size w w' := by
  have E := hid (show refRightB ⟨op, d, a, b, imm⟩ = false by simp [refRightB, h0, h1])
  go_enter Try.func18, Try.ntmps18
  go_wp2_with (first | (go_at_call 16; refine (refForm_any _ _).mono ?_; rintro e w' ⟨rfl, rfl⟩) | (go_at_call 29; refine (refHas_any _ _).mono ?_; rintro e w' ⟨rfl, rfl⟩) | (go_at_call 30; refine (refReg_any _ _ _).mono ?_; rintro e w' ⟨rfl, rfl⟩))
  go_ret
  exact ⟨ret_bool E.out.symm, below_al (Below.refl _ _) _⟩

set_option maxHeartbeats 1000000 in
theorem refRight_n2 (op d a b imm : Int) (h0 : (form op == 0) = false) (h1 : regB d (hasDB (form op)) = true) (h2 : regB a (hasAB (form op)) = false) (w : World) : Calls Try.prog 18 #[.agg #[.int .i64 op, .int .i64 d, .int .i64 a, .int .i64 b, .int .i64 imm]] w fun e w' => e = .returned (.bool (refRightB ⟨op, d, a, b, imm⟩)) ∧ Below w.heap.size w w' := by
  have E := hid (show refRightB ⟨op, d, a, b, imm⟩ = false by simp [refRightB, h0, h1, h2])
  go_enter Try.func18, Try.ntmps18
  go_wp2_with (first | (go_at_call 16; refine (refForm_any _ _).mono ?_; rintro e w' ⟨rfl, rfl⟩) | (go_at_call 29; refine (refHas_any _ _).mono ?_; rintro e w' ⟨rfl, rfl⟩) | (go_at_call 30; refine (refReg_any _ _ _).mono ?_; rintro e w' ⟨rfl, rfl⟩))
  go_ret
  exact ⟨ret_bool E.out.symm, below_al (Below.refl _ _) _⟩

set_option maxHeartbeats 1000000 in
theorem refRight_n3 (op d a b imm : Int) (h0 : (form op == 0) = false) (h1 : regB d (hasDB (form op)) = true) (h2 : regB a (hasAB (form op)) = true) (h3 : regB b (hasBB (form op)) = false) (w : World) : Calls Try.prog 18 #[.agg #[.int .i64 op, .int .i64 d, .int .i64 a, .int .i64 b, .int .i64 imm]] w fun e w' => e = .returned (.bool (refRightB ⟨op, d, a, b, imm⟩)) ∧ Below w.heap.size w w' := by
  have E := hid (show refRightB ⟨op, d, a, b, imm⟩ = false by simp [refRightB, h0, h1, h2, h3])
  go_enter Try.func18, Try.ntmps18
  go_wp2_with (first | (go_at_call 16; refine (refForm_any _ _).mono ?_; rintro e w' ⟨rfl, rfl⟩) | (go_at_call 29; refine (refHas_any _ _).mono ?_; rintro e w' ⟨rfl, rfl⟩) | (go_at_call 30; refine (refReg_any _ _ _).mono ?_; rintro e w' ⟨rfl, rfl⟩))
  go_ret
  exact ⟨ret_bool E.out.symm, below_al (Below.refl _ _) _⟩

set_option maxHeartbeats 1000000 in
theorem refRight_n4 (op d a b imm : Int) (h0 : (form op == 0) = false) (h1 : regB d (hasDB (form op)) = true) (h2 : regB a (hasAB (form op)) = true) (h3 : regB b (hasBB (form op)) = true) (h4 : hasImmB (form op) = false) (h5 : (imm == 0) = false) (w : World) : Calls Try.prog 18 #[.agg #[.int .i64 op, .int .i64 d, .int .i64 a, .int .i64 b, .int .i64 imm]] w fun e w' => e = .returned (.bool (refRightB ⟨op, d, a, b, imm⟩)) ∧ Below w.heap.size w w' := by
  have E := hid (show refRightB ⟨op, d, a, b, imm⟩ = false by simp [refRightB, h0, h1, h2, h3, h4, h5])
  have h6 : (imm != 0) = true := by simpa using h5
  go_enter Try.func18, Try.ntmps18
  go_wp2_with (first | (go_at_call 16; refine (refForm_any _ _).mono ?_; rintro e w' ⟨rfl, rfl⟩) | (go_at_call 29; refine (refHas_any _ _).mono ?_; rintro e w' ⟨rfl, rfl⟩) | (go_at_call 30; refine (refReg_any _ _ _).mono ?_; rintro e w' ⟨rfl, rfl⟩))
  go_ret
  exact ⟨ret_bool E.out.symm, below_al (Below.refl _ _) _⟩

set_option maxHeartbeats 1000000 in
theorem refRight_a0 (op d a b imm : Int) (h0 : (form op == 0) = false) (h1 : regB d (hasDB (form op)) = true) (h2 : regB a (hasAB (form op)) = true) (h3 : regB b (hasBB (form op)) = true) (h4 : hasImmB (form op) = false) (h5 : (imm == 0) = true) (e22 : (op == 22) = false) (e23 : (op == 23) = false) (e24 : (op == 24) = false) (w : World) : Calls Try.prog 18 #[.agg #[.int .i64 op, .int .i64 d, .int .i64 a, .int .i64 b, .int .i64 imm]] w fun e w' => e = .returned (.bool (refRightB ⟨op, d, a, b, imm⟩)) ∧ Below w.heap.size w w' := by
  have E := hid (show refRightB ⟨op, d, a, b, imm⟩ = (decide ((-8192) ≤ imm) && decide (imm ≤ 8191)) by simp [refRightB, h0, h1, h2, h3, h4, h5, loB, hiB, shiftB, e22, e23, e24])
  have h6 : (imm != 0) = false := by simpa using h5
  clear h5
  go_enter Try.func18, Try.ntmps18
  go_wp2_with (first | (go_at_call 16; refine (refForm_any _ _).mono ?_; rintro e w' ⟨rfl, rfl⟩) | (go_at_call 29; refine (refHas_any _ _).mono ?_; rintro e w' ⟨rfl, rfl⟩) | (go_at_call 30; refine (refReg_any _ _ _).mono ?_; rintro e w' ⟨rfl, rfl⟩))
  all_goals
    go_ret
    refine ⟨ret_bool ?_, below_al (Below.refl _ _) _⟩
    rw [E.out]
    go_light
    simp [*] <;> omega

set_option maxHeartbeats 1000000 in
theorem refRight_a1 (op d a b imm : Int) (h0 : (form op == 0) = false) (h1 : regB d (hasDB (form op)) = true) (h2 : regB a (hasAB (form op)) = true) (h3 : regB b (hasBB (form op)) = true) (h4 : hasImmB (form op) = true) (e22 : (op == 22) = false) (e23 : (op == 23) = false) (e24 : (op == 24) = false) (w : World) : Calls Try.prog 18 #[.agg #[.int .i64 op, .int .i64 d, .int .i64 a, .int .i64 b, .int .i64 imm]] w fun e w' => e = .returned (.bool (refRightB ⟨op, d, a, b, imm⟩)) ∧ Below w.heap.size w w' := by
  have E := hid (show refRightB ⟨op, d, a, b, imm⟩ = (decide ((-8192) ≤ imm) && decide (imm ≤ 8191)) by simp [refRightB, h0, h1, h2, h3, h4, loB, hiB, shiftB, e22, e23, e24])
  go_enter Try.func18, Try.ntmps18
  go_wp2_with (first | (go_at_call 16; refine (refForm_any _ _).mono ?_; rintro e w' ⟨rfl, rfl⟩) | (go_at_call 29; refine (refHas_any _ _).mono ?_; rintro e w' ⟨rfl, rfl⟩) | (go_at_call 30; refine (refReg_any _ _ _).mono ?_; rintro e w' ⟨rfl, rfl⟩))
  all_goals
    go_ret
    refine ⟨ret_bool ?_, below_al (Below.refl _ _) _⟩
    rw [E.out]
    go_light
    simp [*] <;> omega

set_option maxHeartbeats 1000000 in
theorem refRight_b0 (op d a b imm : Int) (h0 : (form op == 0) = false) (h1 : regB d (hasDB (form op)) = true) (h2 : regB a (hasAB (form op)) = true) (h3 : regB b (hasBB (form op)) = true) (h4 : hasImmB (form op) = false) (h5 : (imm == 0) = true) (e22 : (op == 22) = true) (w : World) : Calls Try.prog 18 #[.agg #[.int .i64 op, .int .i64 d, .int .i64 a, .int .i64 b, .int .i64 imm]] w fun e w' => e = .returned (.bool (refRightB ⟨op, d, a, b, imm⟩)) ∧ Below w.heap.size w w' := by
  have E := hid (show refRightB ⟨op, d, a, b, imm⟩ = (decide (0 ≤ imm) && decide (imm ≤ 31)) by simp [refRightB, h0, h1, h2, h3, h4, h5, loB, hiB, shiftB, e22])
  have h6 : (imm != 0) = false := by simpa using h5
  clear h5
  go_enter Try.func18, Try.ntmps18
  go_wp2_with (first | (go_at_call 16; refine (refForm_any _ _).mono ?_; rintro e w' ⟨rfl, rfl⟩) | (go_at_call 29; refine (refHas_any _ _).mono ?_; rintro e w' ⟨rfl, rfl⟩) | (go_at_call 30; refine (refReg_any _ _ _).mono ?_; rintro e w' ⟨rfl, rfl⟩))
  all_goals
    go_ret
    refine ⟨ret_bool ?_, below_al (Below.refl _ _) _⟩
    rw [E.out]
    go_light
    simp [*] <;> omega

set_option maxHeartbeats 1000000 in
theorem refRight_b1 (op d a b imm : Int) (h0 : (form op == 0) = false) (h1 : regB d (hasDB (form op)) = true) (h2 : regB a (hasAB (form op)) = true) (h3 : regB b (hasBB (form op)) = true) (h4 : hasImmB (form op) = true) (e22 : (op == 22) = true) (w : World) : Calls Try.prog 18 #[.agg #[.int .i64 op, .int .i64 d, .int .i64 a, .int .i64 b, .int .i64 imm]] w fun e w' => e = .returned (.bool (refRightB ⟨op, d, a, b, imm⟩)) ∧ Below w.heap.size w w' := by
  have E := hid (show refRightB ⟨op, d, a, b, imm⟩ = (decide (0 ≤ imm) && decide (imm ≤ 31)) by simp [refRightB, h0, h1, h2, h3, h4, loB, hiB, shiftB, e22])
  go_enter Try.func18, Try.ntmps18
  go_wp2_with (first | (go_at_call 16; refine (refForm_any _ _).mono ?_; rintro e w' ⟨rfl, rfl⟩) | (go_at_call 29; refine (refHas_any _ _).mono ?_; rintro e w' ⟨rfl, rfl⟩) | (go_at_call 30; refine (refReg_any _ _ _).mono ?_; rintro e w' ⟨rfl, rfl⟩))
  all_goals
    go_ret
    refine ⟨ret_bool ?_, below_al (Below.refl _ _) _⟩
    rw [E.out]
    go_light
    simp [*] <;> omega

set_option maxHeartbeats 1000000 in
theorem refRight_c0 (op d a b imm : Int) (h0 : (form op == 0) = false) (h1 : regB d (hasDB (form op)) = true) (h2 : regB a (hasAB (form op)) = true) (h3 : regB b (hasBB (form op)) = true) (h4 : hasImmB (form op) = false) (h5 : (imm == 0) = true) (e22 : (op == 22) = false) (e23 : (op == 23) = true) (w : World) : Calls Try.prog 18 #[.agg #[.int .i64 op, .int .i64 d, .int .i64 a, .int .i64 b, .int .i64 imm]] w fun e w' => e = .returned (.bool (refRightB ⟨op, d, a, b, imm⟩)) ∧ Below w.heap.size w w' := by
  have E := hid (show refRightB ⟨op, d, a, b, imm⟩ = (decide (0 ≤ imm) && decide (imm ≤ 31)) by simp [refRightB, h0, h1, h2, h3, h4, h5, loB, hiB, shiftB, e22, e23])
  have h6 : (imm != 0) = false := by simpa using h5
  clear h5
  go_enter Try.func18, Try.ntmps18
  go_wp2_with (first | (go_at_call 16; refine (refForm_any _ _).mono ?_; rintro e w' ⟨rfl, rfl⟩) | (go_at_call 29; refine (refHas_any _ _).mono ?_; rintro e w' ⟨rfl, rfl⟩) | (go_at_call 30; refine (refReg_any _ _ _).mono ?_; rintro e w' ⟨rfl, rfl⟩))
  all_goals
    go_ret
    refine ⟨ret_bool ?_, below_al (Below.refl _ _) _⟩
    rw [E.out]
    go_light
    simp [*] <;> omega

set_option maxHeartbeats 1000000 in
theorem refRight_c1 (op d a b imm : Int) (h0 : (form op == 0) = false) (h1 : regB d (hasDB (form op)) = true) (h2 : regB a (hasAB (form op)) = true) (h3 : regB b (hasBB (form op)) = true) (h4 : hasImmB (form op) = true) (e22 : (op == 22) = false) (e23 : (op == 23) = true) (w : World) : Calls Try.prog 18 #[.agg #[.int .i64 op, .int .i64 d, .int .i64 a, .int .i64 b, .int .i64 imm]] w fun e w' => e = .returned (.bool (refRightB ⟨op, d, a, b, imm⟩)) ∧ Below w.heap.size w w' := by
  have E := hid (show refRightB ⟨op, d, a, b, imm⟩ = (decide (0 ≤ imm) && decide (imm ≤ 31)) by simp [refRightB, h0, h1, h2, h3, h4, loB, hiB, shiftB, e22, e23])
  go_enter Try.func18, Try.ntmps18
  go_wp2_with (first | (go_at_call 16; refine (refForm_any _ _).mono ?_; rintro e w' ⟨rfl, rfl⟩) | (go_at_call 29; refine (refHas_any _ _).mono ?_; rintro e w' ⟨rfl, rfl⟩) | (go_at_call 30; refine (refReg_any _ _ _).mono ?_; rintro e w' ⟨rfl, rfl⟩))
  all_goals
    go_ret
    refine ⟨ret_bool ?_, below_al (Below.refl _ _) _⟩
    rw [E.out]
    go_light
    simp [*] <;> omega

set_option maxHeartbeats 1000000 in
theorem refRight_d0 (op d a b imm : Int) (h0 : (form op == 0) = false) (h1 : regB d (hasDB (form op)) = true) (h2 : regB a (hasAB (form op)) = true) (h3 : regB b (hasBB (form op)) = true) (h4 : hasImmB (form op) = false) (h5 : (imm == 0) = true) (e22 : (op == 22) = false) (e23 : (op == 23) = false) (e24 : (op == 24) = true) (w : World) : Calls Try.prog 18 #[.agg #[.int .i64 op, .int .i64 d, .int .i64 a, .int .i64 b, .int .i64 imm]] w fun e w' => e = .returned (.bool (refRightB ⟨op, d, a, b, imm⟩)) ∧ Below w.heap.size w w' := by
  have E := hid (show refRightB ⟨op, d, a, b, imm⟩ = (decide (0 ≤ imm) && decide (imm ≤ 31)) by simp [refRightB, h0, h1, h2, h3, h4, h5, loB, hiB, shiftB, e22, e23, e24])
  have h6 : (imm != 0) = false := by simpa using h5
  clear h5
  go_enter Try.func18, Try.ntmps18
  go_wp2_with (first | (go_at_call 16; refine (refForm_any _ _).mono ?_; rintro e w' ⟨rfl, rfl⟩) | (go_at_call 29; refine (refHas_any _ _).mono ?_; rintro e w' ⟨rfl, rfl⟩) | (go_at_call 30; refine (refReg_any _ _ _).mono ?_; rintro e w' ⟨rfl, rfl⟩))
  all_goals
    go_ret
    refine ⟨ret_bool ?_, below_al (Below.refl _ _) _⟩
    rw [E.out]
    go_light
    simp [*] <;> omega

set_option maxHeartbeats 1000000 in
theorem refRight_d1 (op d a b imm : Int) (h0 : (form op == 0) = false) (h1 : regB d (hasDB (form op)) = true) (h2 : regB a (hasAB (form op)) = true) (h3 : regB b (hasBB (form op)) = true) (h4 : hasImmB (form op) = true) (e22 : (op == 22) = false) (e23 : (op == 23) = false) (e24 : (op == 24) = true) (w : World) : Calls Try.prog 18 #[.agg #[.int .i64 op, .int .i64 d, .int .i64 a, .int .i64 b, .int .i64 imm]] w fun e w' => e = .returned (.bool (refRightB ⟨op, d, a, b, imm⟩)) ∧ Below w.heap.size w w' := by
  have E := hid (show refRightB ⟨op, d, a, b, imm⟩ = (decide (0 ≤ imm) && decide (imm ≤ 31)) by simp [refRightB, h0, h1, h2, h3, h4, loB, hiB, shiftB, e22, e23, e24])
  go_enter Try.func18, Try.ntmps18
  go_wp2_with (first | (go_at_call 16; refine (refForm_any _ _).mono ?_; rintro e w' ⟨rfl, rfl⟩) | (go_at_call 29; refine (refHas_any _ _).mono ?_; rintro e w' ⟨rfl, rfl⟩) | (go_at_call 30; refine (refReg_any _ _ _).mono ?_; rintro e w' ⟨rfl, rfl⟩))
  all_goals
    go_ret
    refine ⟨ret_bool ?_, below_al (Below.refl _ _) _⟩
    rw [E.out]
    go_light
    simp [*] <;> omega

theorem refRight_any (i : Ins) (w : World) : Calls Try.prog 18 #[i.val] w fun e w' => e = .returned (.bool (rightB i)) ∧ Below w.heap.size w w' := by
  rw [← refRight_eq]
  obtain ⟨op, d, a, b, imm⟩ := i
  cases h0 : (form op == 0) with
  | true => exact refRight_n0 op d a b imm h0 w
  | false =>
  cases h1 : regB d (hasDB (form op)) with
  | false => exact refRight_n1 op d a b imm h0 h1 w
  | true =>
  cases h2 : regB a (hasAB (form op)) with
  | false => exact refRight_n2 op d a b imm h0 h1 h2 w
  | true =>
  cases h3 : regB b (hasBB (form op)) with
  | false => exact refRight_n3 op d a b imm h0 h1 h2 h3 w
  | true =>
  cases h4 : hasImmB (form op) with
  | false =>
    cases h5 : (imm == 0) with
    | false => exact refRight_n4 op d a b imm h0 h1 h2 h3 h4 h5 w
    | true =>
    cases e22 : (op == 22) with
    | true => exact refRight_b0 op d a b imm h0 h1 h2 h3 h4 h5 e22 w
    | false =>
    cases e23 : (op == 23) with
    | true => exact refRight_c0 op d a b imm h0 h1 h2 h3 h4 h5 e22 e23 w
    | false =>
    cases e24 : (op == 24) with
    | true => exact refRight_d0 op d a b imm h0 h1 h2 h3 h4 h5 e22 e23 e24 w
    | false => exact refRight_a0 op d a b imm h0 h1 h2 h3 h4 h5 e22 e23 e24 w
  | true =>
    cases e22 : (op == 22) with
    | true => exact refRight_b1 op d a b imm h0 h1 h2 h3 h4 e22 w
    | false =>
    cases e23 : (op == 23) with
    | true => exact refRight_c1 op d a b imm h0 h1 h2 h3 h4 e22 e23 w
    | false =>
    cases e24 : (op == 24) with
    | true => exact refRight_d1 op d a b imm h0 h1 h2 h3 h4 e22 e23 e24 w
    | false => exact refRight_a1 op d a b imm h0 h1 h2 h3 h4 e22 e23 e24 w

set_option maxHeartbeats 1000000 in
theorem refEncode_yes (op d a b imm : Int) (h : rightB ⟨op, d, a, b, imm⟩ = true) (w : World) : Calls Try.prog 12 #[.agg #[.int .i64 op, .int .i64 d, .int .i64 a, .int .i64 b, .int .i64 imm]] w fun e w' => e = .returned (.tuple #[.int .u32 (encW ⟨op, d, a, b, imm⟩), .bool true]) ∧ Below w.heap.size w w' := by
  obtain ⟨o0, o1, d0, d1, a0, a1, b0, b1, m0, m1⟩ := right_fit h
  simp only at o0 o1 d0 d1 a0 a1 b0 b1 m0 m1
  have hr := fun w => refRight_any ⟨op, d, a, b, imm⟩ w
  rw [h] at hr
  unfold Ins.val at hr
  have HR := hid hr
  clear hr h
  go_enter Try.func12, Try.ntmps12
  go_wp2_with fail
  refine (HR.out _).mono ?_
  rintro e w1 ⟨rfl, hb⟩
  obtain ⟨hc, hf⟩ := bcell hb
  go_wp2
  go_ret2
  exact ⟨ret_tup2 (enc_bits o0 o1 d0 d1 a0 a1 b0 b1) rfl, below_tr (below_al (Below.refl _ _) _) hb⟩

theorem refEncode_no (op d a b imm : Int) (h : rightB ⟨op, d, a, b, imm⟩ = false) (w : World) : Calls Try.prog 12 #[.agg #[.int .i64 op, .int .i64 d, .int .i64 a, .int .i64 b, .int .i64 imm]] w fun e w' => e = .returned (.tuple #[.int .u32 0, .bool false]) ∧ Below w.heap.size w w' := by
  have hr := fun w => refRight_any ⟨op, d, a, b, imm⟩ w
  rw [h] at hr
  unfold Ins.val at hr
  have HR := hid hr
  clear hr h
  go_enter Try.func12, Try.ntmps12
  go_wp2_with fail
  refine (HR.out _).mono ?_
  rintro e w1 ⟨rfl, hb⟩
  go_wp2
  go_ret2
  exact ⟨rfl, below_tr (below_al (Below.refl _ _) _) hb⟩

theorem refEncode_any (i : Ins) (w : World) : Calls Try.prog 12 #[i.val] w fun e w' => e = .returned (.tuple #[.int .u32 (encT i).1, .bool (encT i).2]) ∧ Below w.heap.size w w' := by
  obtain ⟨op, d, a, b, imm⟩ := i
  unfold encT
  cases h : rightB ⟨op, d, a, b, imm⟩ with
  | true => exact refEncode_yes op d a b imm h w
  | false => exact refEncode_no op d a b imm h w

end Go.Proofs.Ytegalldldcaocaa
