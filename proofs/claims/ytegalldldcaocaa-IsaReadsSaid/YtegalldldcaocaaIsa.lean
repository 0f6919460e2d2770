/-
What the functions of package isa come to, each for any instruction and any word: plain functions of five numbers.
-/
import Derived.Test.YtegalldldcaocaaLib
import Derived.Test.YtegalldldcaocaaRows
import Derived.Deep.Light
namespace Go.Proofs.Ytegalldldcaocaa
open Go.RowKit

structure Ins where
  op : Int
  d : Int
  a : Int
  b : Int
  imm : Int
  deriving DecidableEq
def Ins.val (i : Ins) : Value := .agg #[.int .i64 i.op, .int .i64 i.d, .int .i64 i.a, .int .i64 i.b, .int .i64 i.imm]
def form (op : Int) : Int :=
  if op < 1 then 0 else if 41 < op then 0 else if op ≤ 16 then 1 else if op ≤ 24 then 2 else if op = 25 then 3 else if op ≤ 30 then 4 else if op ≤ 33 then 5 else if op ≤ 39 then 6 else if op = 40 then 7 else 8
def hasDB (f : Int) : Bool := decide (1 ≤ f) && decide (f ≤ 4)
def hasAB (f : Int) : Bool := f == 1 || f == 2 || f == 4 || f == 5 || f == 6
def hasBB (f : Int) : Bool := f == 1 || f == 5 || f == 6
def hasImmB (f : Int) : Bool := decide (2 ≤ f) && decide (f ≤ 7)
def withinB (n : Int) (has : Bool) (lo hi : Int) : Bool := if has then decide (lo ≤ n) && decide (n ≤ hi) else n == 0
def shiftB (op : Int) : Bool := op == 22 || op == 23 || op == 24
def loB (op : Int) : Int := if shiftB op then 0 else -8192
def hiB (op : Int) : Int := if shiftB op then 31 else 8191
def rightB (i : Ins) : Bool :=
  decide (0 < form i.op) && withinB i.d (hasDB (form i.op)) 0 15 && withinB i.a (hasAB (form i.op)) 0 15 && withinB i.b (hasBB (form i.op)) 0 15 && withinB i.imm (hasImmB (form i.op)) (loB i.op) (hiB i.op)

theorem ret_int {k : IntKind} {a b : Int} (h : a = b) : Ending.returned (.int k a) = .returned (.int k b) := by rw [h]
theorem ret_bool {a b : Bool} (h : a = b) : Ending.returned (.bool a) = .returned (.bool b) := by rw [h]

theorem form_any (op : Int) (w : World) : Calls Try.prog 15 #[.int .i64 op] w fun e w' => e = .returned (.int .i64 (form op)) ∧ w = w' := by
  go_enter Try.func15, Try.ntmps15
  go_wp2
  all_goals
    go_ret
    refine ⟨ret_int ?_, rfl⟩
    go_light
    try simp only [beq_iff_eq, beq_eq_false_iff_ne, ne_eq] at *
    unfold form
    repeat' split
    all_goals first | rfl | (exfalso; omega)

theorem hasD_any (f : Int) (w : World) : Calls Try.prog 25 #[.int .i64 f] w fun e w' => e = .returned (.bool (hasDB f)) ∧ w = w' := by
  go_enter Try.func25, Try.ntmps25
  go_wp2
  all_goals
    go_ret
    refine ⟨ret_bool ?_, rfl⟩
    go_light
    simp [hasDB, hasAB, hasBB, hasImmB, *] <;> omega
theorem hasA_any (f : Int) (w : World) : Calls Try.prog 26 #[.int .i64 f] w fun e w' => e = .returned (.bool (hasAB f)) ∧ w = w' := by
  go_enter Try.func26, Try.ntmps26
  go_wp2
  all_goals
    go_ret
    refine ⟨ret_bool ?_, rfl⟩
    go_light
    simp [hasDB, hasAB, hasBB, hasImmB, *] <;> omega
theorem hasB_any (f : Int) (w : World) : Calls Try.prog 27 #[.int .i64 f] w fun e w' => e = .returned (.bool (hasBB f)) ∧ w = w' := by
  go_enter Try.func27, Try.ntmps27
  go_wp2
  all_goals
    go_ret
    refine ⟨ret_bool ?_, rfl⟩
    go_light
    simp [hasBB, *] <;> omega
theorem hasImm_any (f : Int) (w : World) : Calls Try.prog 28 #[.int .i64 f] w fun e w' => e = .returned (.bool (hasImmB f)) ∧ w = w' := by
  go_enter Try.func28, Try.ntmps28
  go_wp2
  all_goals
    go_ret
    refine ⟨ret_bool ?_, rfl⟩
    go_light
    simp [hasImmB, *] <;> omega
theorem within_any (n : Int) (has : Bool) (lo hi : Int) (w : World) : Calls Try.prog 24 #[.int .i64 n, .bool has, .int .i64 lo, .int .i64 hi] w fun e w' => e = .returned (.bool (withinB n has lo hi)) ∧ w = w' := by
  cases has
  · go_enter Try.func24, Try.ntmps24
    go_wp2
    go_ret
    exact ⟨ret_bool rfl, rfl⟩
  · go_enter Try.func24, Try.ntmps24
    go_wp2
    all_goals
      go_ret
      refine ⟨ret_bool ?_, rfl⟩
      go_light
      simp [withinB, *] <;> omega

/-- a contract that leaves the world alone, met in a quiet region -/
theorem q_same {P : Program} {f : FuncId} {args : Array Value} {w : World} {n : Nat} {v : Value}
    (h : Calls P f args (w.drewN n) fun e w' => e = .returned v ∧ w.drewN n = w') : Calls P f args (w.drewN n) fun e w'' => e = .returned v ∧ ∃ m, w'' = w.drewN m :=
  h.mono fun _ _ ⟨he, hm⟩ => ⟨he, n, hm.symm⟩

set_option maxHeartbeats 2000000 in
theorem right_a (op d a b imm : Int) (e22 : (op == 22) = false) (e23 : (op == 23) = false) (e24 : (op == 24) = false) (w : World) : Calls Try.prog 17 #[.agg #[.int .i64 op, .int .i64 d, .int .i64 a, .int .i64 b, .int .i64 imm]] w fun e w' => e = .returned (.bool (rightB ⟨op, d, a, b, imm⟩)) ∧ Below w.heap.size w w' := by
  have hlo : loB op = (-8192) := by simp [loB, shiftB, e22, e23, e24]
  have hhi : hiB op = 8191 := by simp [hiB, shiftB, e22, e23, e24]
  have HL := hid hlo
  have HH := hid hhi
  clear hlo hhi
  go_enter Try.func17, Try.ntmps17
  go_wp2_with (go_at_call 15; refine (form_any _ _).mono ?_; rintro e w' ⟨rfl, rfl⟩)
  cases h0 : decide (0 < form op) with
  | false =>
    have E := hid (show rightB ⟨op, d, a, b, imm⟩ = false by simp only [rightB, HL.out, HH.out, h0, Bool.false_and, Bool.and_false, Bool.and_self])
    go_quiet ((first | (go_at_call 25; exact q_same (hasD_any _ _)) | (go_at_call 26; exact q_same (hasA_any _ _)) | (go_at_call 27; exact q_same (hasB_any _ _)) | (go_at_call 28; exact q_same (hasImm_any _ _)) | (go_at_call 24; exact q_same (within_any _ _ _ _ _))))
    go_wp2
    go_ret
    exact ⟨ret_bool E.out.symm, below_dr (below_al (Below.refl _ _) _) _⟩
  | true =>
    cases h1 : withinB d (hasDB (form op)) 0 15 with
    | false =>
      have E := hid (show rightB ⟨op, d, a, b, imm⟩ = false by simp only [rightB, HL.out, HH.out, h0, h1, Bool.false_and, Bool.and_false, Bool.and_self])
      go_quiet ((first | (go_at_call 25; exact q_same (hasD_any _ _)) | (go_at_call 26; exact q_same (hasA_any _ _)) | (go_at_call 27; exact q_same (hasB_any _ _)) | (go_at_call 28; exact q_same (hasImm_any _ _)) | (go_at_call 24; exact q_same (within_any _ _ _ _ _))))
      go_wp2
      go_ret
      exact ⟨ret_bool E.out.symm, below_dr (below_al (Below.refl _ _) _) _⟩
    | true =>
      cases h2 : withinB a (hasAB (form op)) 0 15 with
      | false =>
        have E := hid (show rightB ⟨op, d, a, b, imm⟩ = false by simp only [rightB, HL.out, HH.out, h0, h1, h2, Bool.false_and, Bool.and_false, Bool.and_self])
        go_quiet ((first | (go_at_call 25; exact q_same (hasD_any _ _)) | (go_at_call 26; exact q_same (hasA_any _ _)) | (go_at_call 27; exact q_same (hasB_any _ _)) | (go_at_call 28; exact q_same (hasImm_any _ _)) | (go_at_call 24; exact q_same (within_any _ _ _ _ _))))
        go_wp2
        go_ret
        exact ⟨ret_bool E.out.symm, below_dr (below_al (Below.refl _ _) _) _⟩
      | true =>
        cases h3 : withinB b (hasBB (form op)) 0 15 with
        | false =>
          have E := hid (show rightB ⟨op, d, a, b, imm⟩ = false by simp only [rightB, HL.out, HH.out, h0, h1, h2, h3, Bool.false_and, Bool.and_false, Bool.and_self])
          go_quiet ((first | (go_at_call 25; exact q_same (hasD_any _ _)) | (go_at_call 26; exact q_same (hasA_any _ _)) | (go_at_call 27; exact q_same (hasB_any _ _)) | (go_at_call 28; exact q_same (hasImm_any _ _)) | (go_at_call 24; exact q_same (within_any _ _ _ _ _))))
          go_wp2
          go_ret
          exact ⟨ret_bool E.out.symm, below_dr (below_al (Below.refl _ _) _) _⟩
        | true =>
          cases h4 : withinB imm (hasImmB (form op)) (-8192) 8191 with
          | false =>
            have E := hid (show rightB ⟨op, d, a, b, imm⟩ = false by simp only [rightB, HL.out, HH.out, h0, h1, h2, h3, h4, Bool.false_and, Bool.and_false, Bool.and_self])
            go_quiet ((first | (go_at_call 25; exact q_same (hasD_any _ _)) | (go_at_call 26; exact q_same (hasA_any _ _)) | (go_at_call 27; exact q_same (hasB_any _ _)) | (go_at_call 28; exact q_same (hasImm_any _ _)) | (go_at_call 24; exact q_same (within_any _ _ _ _ _))))
            go_wp2
            go_ret
            exact ⟨ret_bool E.out.symm, below_dr (below_al (Below.refl _ _) _) _⟩
          | true =>
            have E := hid (show rightB ⟨op, d, a, b, imm⟩ = true by simp only [rightB, HL.out, HH.out, h0, h1, h2, h3, h4, Bool.false_and, Bool.and_false, Bool.and_self])
            go_quiet ((first | (go_at_call 25; exact q_same (hasD_any _ _)) | (go_at_call 26; exact q_same (hasA_any _ _)) | (go_at_call 27; exact q_same (hasB_any _ _)) | (go_at_call 28; exact q_same (hasImm_any _ _)) | (go_at_call 24; exact q_same (within_any _ _ _ _ _))))
            go_wp2
            go_ret
            exact ⟨ret_bool E.out.symm, below_dr (below_al (Below.refl _ _) _) _⟩

set_option maxHeartbeats 2000000 in
theorem right_b (op d a b imm : Int) (e22 : (op == 22) = true) (w : World) : Calls Try.prog 17 #[.agg #[.int .i64 op, .int .i64 d, .int .i64 a, .int .i64 b, .int .i64 imm]] w fun e w' => e = .returned (.bool (rightB ⟨op, d, a, b, imm⟩)) ∧ Below w.heap.size w w' := by
  have hlo : loB op = 0 := by simp [loB, shiftB, e22]
  have hhi : hiB op = 31 := by simp [hiB, shiftB, e22]
  have HL := hid hlo
  have HH := hid hhi
  clear hlo hhi
  go_enter Try.func17, Try.ntmps17
  go_wp2_with (go_at_call 15; refine (form_any _ _).mono ?_; rintro e w' ⟨rfl, rfl⟩)
  cases h0 : decide (0 < form op) with
  | false =>
    have E := hid (show rightB ⟨op, d, a, b, imm⟩ = false by simp only [rightB, HL.out, HH.out, h0, Bool.false_and, Bool.and_false, Bool.and_self])
    go_quiet ((first | (go_at_call 25; exact q_same (hasD_any _ _)) | (go_at_call 26; exact q_same (hasA_any _ _)) | (go_at_call 27; exact q_same (hasB_any _ _)) | (go_at_call 28; exact q_same (hasImm_any _ _)) | (go_at_call 24; exact q_same (within_any _ _ _ _ _))))
    go_wp2
    go_ret
    exact ⟨ret_bool E.out.symm, below_dr (below_al (Below.refl _ _) _) _⟩
  | true =>
    cases h1 : withinB d (hasDB (form op)) 0 15 with
    | false =>
      have E := hid (show rightB ⟨op, d, a, b, imm⟩ = false by simp only [rightB, HL.out, HH.out, h0, h1, Bool.false_and, Bool.and_false, Bool.and_self])
      go_quiet ((first | (go_at_call 25; exact q_same (hasD_any _ _)) | (go_at_call 26; exact q_same (hasA_any _ _)) | (go_at_call 27; exact q_same (hasB_any _ _)) | (go_at_call 28; exact q_same (hasImm_any _ _)) | (go_at_call 24; exact q_same (within_any _ _ _ _ _))))
      go_wp2
      go_ret
      exact ⟨ret_bool E.out.symm, below_dr (below_al (Below.refl _ _) _) _⟩
    | true =>
      cases h2 : withinB a (hasAB (form op)) 0 15 with
      | false =>
        have E := hid (show rightB ⟨op, d, a, b, imm⟩ = false by simp only [rightB, HL.out, HH.out, h0, h1, h2, Bool.false_and, Bool.and_false, Bool.and_self])
        go_quiet ((first | (go_at_call 25; exact q_same (hasD_any _ _)) | (go_at_call 26; exact q_same (hasA_any _ _)) | (go_at_call 27; exact q_same (hasB_any _ _)) | (go_at_call 28; exact q_same (hasImm_any _ _)) | (go_at_call 24; exact q_same (within_any _ _ _ _ _))))
        go_wp2
        go_ret
        exact ⟨ret_bool E.out.symm, below_dr (below_al (Below.refl _ _) _) _⟩
      | true =>
        cases h3 : withinB b (hasBB (form op)) 0 15 with
        | false =>
          have E := hid (show rightB ⟨op, d, a, b, imm⟩ = false by simp only [rightB, HL.out, HH.out, h0, h1, h2, h3, Bool.false_and, Bool.and_false, Bool.and_self])
          go_quiet ((first | (go_at_call 25; exact q_same (hasD_any _ _)) | (go_at_call 26; exact q_same (hasA_any _ _)) | (go_at_call 27; exact q_same (hasB_any _ _)) | (go_at_call 28; exact q_same (hasImm_any _ _)) | (go_at_call 24; exact q_same (within_any _ _ _ _ _))))
          go_wp2
          go_ret
          exact ⟨ret_bool E.out.symm, below_dr (below_al (Below.refl _ _) _) _⟩
        | true =>
          cases h4 : withinB imm (hasImmB (form op)) 0 31 with
          | false =>
            have E := hid (show rightB ⟨op, d, a, b, imm⟩ = false by simp only [rightB, HL.out, HH.out, h0, h1, h2, h3, h4, Bool.false_and, Bool.and_false, Bool.and_self])
            go_quiet ((first | (go_at_call 25; exact q_same (hasD_any _ _)) | (go_at_call 26; exact q_same (hasA_any _ _)) | (go_at_call 27; exact q_same (hasB_any _ _)) | (go_at_call 28; exact q_same (hasImm_any _ _)) | (go_at_call 24; exact q_same (within_any _ _ _ _ _))))
            go_wp2
            go_ret
            exact ⟨ret_bool E.out.symm, below_dr (below_al (Below.refl _ _) _) _⟩
          | true =>
            have E := hid (show rightB ⟨op, d, a, b, imm⟩ = true by simp only [rightB, HL.out, HH.out, h0, h1, h2, h3, h4, Bool.false_and, Bool.and_false, Bool.and_self])
            go_quiet ((first | (go_at_call 25; exact q_same (hasD_any _ _)) | (go_at_call 26; exact q_same (hasA_any _ _)) | (go_at_call 27; exact q_same (hasB_any _ _)) | (go_at_call 28; exact q_same (hasImm_any _ _)) | (go_at_call 24; exact q_same (within_any _ _ _ _ _))))
            go_wp2
            go_ret
            exact ⟨ret_bool E.out.symm, below_dr (below_al (Below.refl _ _) _) _⟩

set_option maxHeartbeats 2000000 in
theorem right_c (op d a b imm : Int) (e22 : (op == 22) = false) (e23 : (op == 23) = true) (w : World) : Calls Try.prog 17 #[.agg #[.int .i64 op, .int .i64 d, .int .i64 a, .int .i64 b, .int .i64 imm]] w fun e w' => e = .returned (.bool (rightB ⟨op, d, a, b, imm⟩)) ∧ Below w.heap.size w w' := by
  have hlo : loB op = 0 := by simp [loB, shiftB, e22, e23]
  have hhi : hiB op = 31 := by simp [hiB, shiftB, e22, e23]
  have HL := hid hlo
  have HH := hid hhi
  clear hlo hhi
  go_enter Try.func17, Try.ntmps17
  go_wp2_with (go_at_call 15; refine (form_any _ _).mono ?_; rintro e w' ⟨rfl, rfl⟩)
  cases h0 : decide (0 < form op) with
  | false =>
    have E := hid (show rightB ⟨op, d, a, b, imm⟩ = false by simp only [rightB, HL.out, HH.out, h0, Bool.false_and, Bool.and_false, Bool.and_self])
    go_quiet ((first | (go_at_call 25; exact q_same (hasD_any _ _)) | (go_at_call 26; exact q_same (hasA_any _ _)) | (go_at_call 27; exact q_same (hasB_any _ _)) | (go_at_call 28; exact q_same (hasImm_any _ _)) | (go_at_call 24; exact q_same (within_any _ _ _ _ _))))
    go_wp2
    go_ret
    exact ⟨ret_bool E.out.symm, below_dr (below_al (Below.refl _ _) _) _⟩
  | true =>
    cases h1 : withinB d (hasDB (form op)) 0 15 with
    | false =>
      have E := hid (show rightB ⟨op, d, a, b, imm⟩ = false by simp only [rightB, HL.out, HH.out, h0, h1, Bool.false_and, Bool.and_false, Bool.and_self])
      go_quiet ((first | (go_at_call 25; exact q_same (hasD_any _ _)) | (go_at_call 26; exact q_same (hasA_any _ _)) | (go_at_call 27; exact q_same (hasB_any _ _)) | (go_at_call 28; exact q_same (hasImm_any _ _)) | (go_at_call 24; exact q_same (within_any _ _ _ _ _))))
      go_wp2
      go_ret
      exact ⟨ret_bool E.out.symm, below_dr (below_al (Below.refl _ _) _) _⟩
    | true =>
      cases h2 : withinB a (hasAB (form op)) 0 15 with
      | false =>
        have E := hid (show rightB ⟨op, d, a, b, imm⟩ = false by simp only [rightB, HL.out, HH.out, h0, h1, h2, Bool.false_and, Bool.and_false, Bool.and_self])
        go_quiet ((first | (go_at_call 25; exact q_same (hasD_any _ _)) | (go_at_call 26; exact q_same (hasA_any _ _)) | (go_at_call 27; exact q_same (hasB_any _ _)) | (go_at_call 28; exact q_same (hasImm_any _ _)) | (go_at_call 24; exact q_same (within_any _ _ _ _ _))))
        go_wp2
        go_ret
        exact ⟨ret_bool E.out.symm, below_dr (below_al (Below.refl _ _) _) _⟩
      | true =>
        cases h3 : withinB b (hasBB (form op)) 0 15 with
        | false =>
          have E := hid (show rightB ⟨op, d, a, b, imm⟩ = false by simp only [rightB, HL.out, HH.out, h0, h1, h2, h3, Bool.false_and, Bool.and_false, Bool.and_self])
          go_quiet ((first | (go_at_call 25; exact q_same (hasD_any _ _)) | (go_at_call 26; exact q_same (hasA_any _ _)) | (go_at_call 27; exact q_same (hasB_any _ _)) | (go_at_call 28; exact q_same (hasImm_any _ _)) | (go_at_call 24; exact q_same (within_any _ _ _ _ _))))
          go_wp2
          go_ret
          exact ⟨ret_bool E.out.symm, below_dr (below_al (Below.refl _ _) _) _⟩
        | true =>
          cases h4 : withinB imm (hasImmB (form op)) 0 31 with
          | false =>
            have E := hid (show rightB ⟨op, d, a, b, imm⟩ = false by simp only [rightB, HL.out, HH.out, h0, h1, h2, h3, h4, Bool.false_and, Bool.and_false, Bool.and_self])
            go_quiet ((first | (go_at_call 25; exact q_same (hasD_any _ _)) | (go_at_call 26; exact q_same (hasA_any _ _)) | (go_at_call 27; exact q_same (hasB_any _ _)) | (go_at_call 28; exact q_same (hasImm_any _ _)) | (go_at_call 24; exact q_same (within_any _ _ _ _ _))))
            go_wp2
            go_ret
            exact ⟨ret_bool E.out.symm, below_dr (below_al (Below.refl _ _) _) _⟩
          | true =>
            have E := hid (show rightB ⟨op, d, a, b, imm⟩ = true by simp only [rightB, HL.out, HH.out, h0, h1, h2, h3, h4, Bool.false_and, Bool.and_false, Bool.and_self])
            go_quiet ((first | (go_at_call 25; exact q_same (hasD_any _ _)) | (go_at_call 26; exact q_same (hasA_any _ _)) | (go_at_call 27; exact q_same (hasB_any _ _)) | (go_at_call 28; exact q_same (hasImm_any _ _)) | (go_at_call 24; exact q_same (within_any _ _ _ _ _))))
            go_wp2
            go_ret
            exact ⟨ret_bool E.out.symm, below_dr (below_al (Below.refl _ _) _) _⟩

set_option maxHeartbeats 2000000 in
theorem right_d (op d a b imm : Int) (e22 : (op == 22) = false) (e23 : (op == 23) = false) (e24 : (op == 24) = true) (w : World) : Calls Try.prog 17 #[.agg #[.int .i64 op, .int .i64 d, .int .i64 a, .int .i64 b, .int .i64 imm]] w fun e w' => e = .returned (.bool (rightB ⟨op, d, a, b, imm⟩)) ∧ Below w.heap.size w w' := by
  have hlo : loB op = 0 := by simp [loB, shiftB, e22, e23, e24]
  have hhi : hiB op = 31 := by simp [hiB, shiftB, e22, e23, e24]
  have HL := hid hlo
  have HH := hid hhi
  clear hlo hhi
  go_enter Try.func17, Try.ntmps17
  go_wp2_with (go_at_call 15; refine (form_any _ _).mono ?_; rintro e w' ⟨rfl, rfl⟩)
  cases h0 : decide (0 < form op) with
  | false =>
    have E := hid (show rightB ⟨op, d, a, b, imm⟩ = false by simp only [rightB, HL.out, HH.out, h0, Bool.false_and, Bool.and_false, Bool.and_self])
    go_quiet ((first | (go_at_call 25; exact q_same (hasD_any _ _)) | (go_at_call 26; exact q_same (hasA_any _ _)) | (go_at_call 27; exact q_same (hasB_any _ _)) | (go_at_call 28; exact q_same (hasImm_any _ _)) | (go_at_call 24; exact q_same (within_any _ _ _ _ _))))
    go_wp2
    go_ret
    exact ⟨ret_bool E.out.symm, below_dr (below_al (Below.refl _ _) _) _⟩
  | true =>
    cases h1 : withinB d (hasDB (form op)) 0 15 with
    | false =>
      have E := hid (show rightB ⟨op, d, a, b, imm⟩ = false by simp only [rightB, HL.out, HH.out, h0, h1, Bool.false_and, Bool.and_false, Bool.and_self])
      go_quiet ((first | (go_at_call 25; exact q_same (hasD_any _ _)) | (go_at_call 26; exact q_same (hasA_any _ _)) | (go_at_call 27; exact q_same (hasB_any _ _)) | (go_at_call 28; exact q_same (hasImm_any _ _)) | (go_at_call 24; exact q_same (within_any _ _ _ _ _))))
      go_wp2
      go_ret
      exact ⟨ret_bool E.out.symm, below_dr (below_al (Below.refl _ _) _) _⟩
    | true =>
      cases h2 : withinB a (hasAB (form op)) 0 15 with
      | false =>
        have E := hid (show rightB ⟨op, d, a, b, imm⟩ = false by simp only [rightB, HL.out, HH.out, h0, h1, h2, Bool.false_and, Bool.and_false, Bool.and_self])
        go_quiet ((first | (go_at_call 25; exact q_same (hasD_any _ _)) | (go_at_call 26; exact q_same (hasA_any _ _)) | (go_at_call 27; exact q_same (hasB_any _ _)) | (go_at_call 28; exact q_same (hasImm_any _ _)) | (go_at_call 24; exact q_same (within_any _ _ _ _ _))))
        go_wp2
        go_ret
        exact ⟨ret_bool E.out.symm, below_dr (below_al (Below.refl _ _) _) _⟩
      | true =>
        cases h3 : withinB b (hasBB (form op)) 0 15 with
        | false =>
          have E := hid (show rightB ⟨op, d, a, b, imm⟩ = false by simp only [rightB, HL.out, HH.out, h0, h1, h2, h3, Bool.false_and, Bool.and_false, Bool.and_self])
          go_quiet ((first | (go_at_call 25; exact q_same (hasD_any _ _)) | (go_at_call 26; exact q_same (hasA_any _ _)) | (go_at_call 27; exact q_same (hasB_any _ _)) | (go_at_call 28; exact q_same (hasImm_any _ _)) | (go_at_call 24; exact q_same (within_any _ _ _ _ _))))
          go_wp2
          go_ret
          exact ⟨ret_bool E.out.symm, below_dr (below_al (Below.refl _ _) _) _⟩
        | true =>
          cases h4 : withinB imm (hasImmB (form op)) 0 31 with
          | false =>
            have E := hid (show rightB ⟨op, d, a, b, imm⟩ = false by simp only [rightB, HL.out, HH.out, h0, h1, h2, h3, h4, Bool.false_and, Bool.and_false, Bool.and_self])
            go_quiet ((first | (go_at_call 25; exact q_same (hasD_any _ _)) | (go_at_call 26; exact q_same (hasA_any _ _)) | (go_at_call 27; exact q_same (hasB_any _ _)) | (go_at_call 28; exact q_same (hasImm_any _ _)) | (go_at_call 24; exact q_same (within_any _ _ _ _ _))))
            go_wp2
            go_ret
            exact ⟨ret_bool E.out.symm, below_dr (below_al (Below.refl _ _) _) _⟩
          | true =>
            have E := hid (show rightB ⟨op, d, a, b, imm⟩ = true by simp only [rightB, HL.out, HH.out, h0, h1, h2, h3, h4, Bool.false_and, Bool.and_false, Bool.and_self])
            go_quiet ((first | (go_at_call 25; exact q_same (hasD_any _ _)) | (go_at_call 26; exact q_same (hasA_any _ _)) | (go_at_call 27; exact q_same (hasB_any _ _)) | (go_at_call 28; exact q_same (hasImm_any _ _)) | (go_at_call 24; exact q_same (within_any _ _ _ _ _))))
            go_wp2
            go_ret
            exact ⟨ret_bool E.out.symm, below_dr (below_al (Below.refl _ _) _) _⟩

theorem right_any (i : Ins) (w : World) : Calls Try.prog 17 #[i.val] w fun e w' => e = .returned (.bool (rightB i)) ∧ Below w.heap.size w w' := by
  obtain ⟨op, d, a, b, imm⟩ := i
  cases e22 : (op == 22) with
  | true => exact right_b op d a b imm e22 w
  | false =>
    cases e23 : (op == 23) with
    | true => exact right_c op d a b imm e22 e23 w
    | false =>
      cases e24 : (op == 24) with
      | true => exact right_d op d a b imm e22 e23 e24 w
      | false => exact right_a op d a b imm e22 e23 e24 w

end Go.Proofs.Ytegalldldcaocaa
