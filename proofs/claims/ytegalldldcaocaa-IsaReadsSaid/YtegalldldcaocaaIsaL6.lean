/-
The law IsaReads, its cases put together: for every instruction.
-/
import Derived.Test.YtegalldldcaocaaIsaL5
namespace Go.Proofs.Ytegalldldcaocaa
open Go.RowKit

theorem right_zero {i : Ins} (h : rightB i = true) : (hasDB (form i.op) = false → i.d = 0) ∧ (hasAB (form i.op) = false → i.a = 0) ∧ (hasBB (form i.op) = false → i.b = 0) := by
  simp only [rightB, Bool.and_eq_true, decide_eq_true_eq] at h
  obtain ⟨⟨⟨⟨h0, h1⟩, h2⟩, h3⟩, h4⟩ := h
  refine ⟨fun e => ?_, fun e => ?_, fun e => ?_⟩
  · rw [e] at h1; simpa [withinB] using h1
  · rw [e] at h2; simpa [withinB] using h2
  · rw [e] at h3; simpa [withinB] using h3

theorem isaReads_any (i : Ins) (w : World) :
    Calls Try.prog 9 #[i.val] w fun e w' => e = .returned (.bool true) ∧ Below w.heap.size w w' := by
  obtain ⟨op, d, a, b, imm⟩ := i
  cases hr : rightB ⟨op, d, a, b, imm⟩ with
  | false => exact isaReads_no op d a b imm w hr
  | true =>
  have fit := right_fit hr
  obtain ⟨zd, za, zb⟩ := right_zero hr
  have hp : 0 < form op := by simp only [rightB, Bool.and_eq_true, decide_eq_true_eq] at hr; exact hr.1.1.1.1
  have hq := form_range op
  have fa := fit.a0
  have fb := fit.b0
  simp only at zd za zb fa fb
  have hf : form op = 1 ∨ form op = 2 ∨ form op = 3 ∨ form op = 4 ∨ form op = 5 ∨ form op = 6 ∨ form op = 7 ∨ form op = 8 := by omega
  rcases hf with hf | hf | hf | hf | hf | hf | hf | hf
  · rw [hf] at zd za zb
    by_cases ha : 0 < a
    · by_cases hb : 0 < b
      · have qa : (a == 0) = false := beq_eq_false_iff_ne.2 (by omega)
        have qb : (b == 0) = false := beq_eq_false_iff_ne.2 (by omega)
        exact isaReads_111 op d a b imm w ha hb hr hf (by simp [readsL, hr, hf, hasAB, hasBB, qa, qb])
      · obtain rfl : b = 0 := by omega
        have qa : (a == 0) = false := beq_eq_false_iff_ne.2 (by omega)
        exact isaReads_110 op d a imm w ha hr hf (by simp [readsL, hr, hf, hasAB, hasBB, qa])
    · obtain rfl : a = 0 := by omega
      by_cases hb : 0 < b
      · have qb : (b == 0) = false := beq_eq_false_iff_ne.2 (by omega)
        exact isaReads_101 op d b imm w hb hr hf (by simp [readsL, hr, hf, hasAB, hasBB, qb])
      · obtain rfl : b = 0 := by omega
        exact isaReads_100 op d imm w hr hf (by simp [readsL, hr, hf, hasAB, hasBB])
  · rw [hf] at zd za zb
    obtain rfl : b = 0 := zb (by decide)
    by_cases ha : 0 < a
    · have qa : (a == 0) = false := beq_eq_false_iff_ne.2 (by omega)
      exact isaReads_210 op d a imm w ha hr hf (by simp [readsL, hr, hf, hasAB, hasBB, qa])
    · obtain rfl : a = 0 := by omega
      exact isaReads_200 op d imm w hr hf (by simp [readsL, hr, hf, hasAB, hasBB])
  · rw [hf] at zd za zb
    obtain rfl : a = 0 := za (by decide)
    obtain rfl : b = 0 := zb (by decide)
    exact isaReads_300 op d imm w hr hf (by simp [readsL, hr, hf, hasAB, hasBB])
  · rw [hf] at zd za zb
    obtain rfl : b = 0 := zb (by decide)
    by_cases ha : 0 < a
    · have qa : (a == 0) = false := beq_eq_false_iff_ne.2 (by omega)
      exact isaReads_410 op d a imm w ha hr hf (by simp [readsL, hr, hf, hasAB, hasBB, qa])
    · obtain rfl : a = 0 := by omega
      exact isaReads_400 op d imm w hr hf (by simp [readsL, hr, hf, hasAB, hasBB])
  · rw [hf] at zd za zb
    obtain rfl : d = 0 := zd (by decide)
    by_cases ha : 0 < a
    · by_cases hb : 0 < b
      · have qa : (a == 0) = false := beq_eq_false_iff_ne.2 (by omega)
        have qb : (b == 0) = false := beq_eq_false_iff_ne.2 (by omega)
        exact isaReads_511 op a b imm w ha hb hr hf (by simp [readsL, hr, hf, hasAB, hasBB, qa, qb])
      · obtain rfl : b = 0 := by omega
        have qa : (a == 0) = false := beq_eq_false_iff_ne.2 (by omega)
        exact isaReads_510 op a imm w ha hr hf (by simp [readsL, hr, hf, hasAB, hasBB, qa])
    · obtain rfl : a = 0 := by omega
      by_cases hb : 0 < b
      · have qb : (b == 0) = false := beq_eq_false_iff_ne.2 (by omega)
        exact isaReads_501 op b imm w hb hr hf (by simp [readsL, hr, hf, hasAB, hasBB, qb])
      · obtain rfl : b = 0 := by omega
        exact isaReads_500 op imm w hr hf (by simp [readsL, hr, hf, hasAB, hasBB])
  · rw [hf] at zd za zb
    obtain rfl : d = 0 := zd (by decide)
    by_cases ha : 0 < a
    · by_cases hb : 0 < b
      · have qa : (a == 0) = false := beq_eq_false_iff_ne.2 (by omega)
        have qb : (b == 0) = false := beq_eq_false_iff_ne.2 (by omega)
        exact isaReads_611 op a b imm w ha hb hr hf (by simp [readsL, hr, hf, hasAB, hasBB, qa, qb])
      · obtain rfl : b = 0 := by omega
        have qa : (a == 0) = false := beq_eq_false_iff_ne.2 (by omega)
        exact isaReads_610 op a imm w ha hr hf (by simp [readsL, hr, hf, hasAB, hasBB, qa])
    · obtain rfl : a = 0 := by omega
      by_cases hb : 0 < b
      · have qb : (b == 0) = false := beq_eq_false_iff_ne.2 (by omega)
        exact isaReads_601 op b imm w hb hr hf (by simp [readsL, hr, hf, hasAB, hasBB, qb])
      · obtain rfl : b = 0 := by omega
        exact isaReads_600 op imm w hr hf (by simp [readsL, hr, hf, hasAB, hasBB])
  · rw [hf] at zd za zb
    obtain rfl : d = 0 := zd (by decide)
    obtain rfl : a = 0 := za (by decide)
    obtain rfl : b = 0 := zb (by decide)
    exact isaReads_700 op imm w hr hf (by simp [readsL, hr, hf, hasAB, hasBB])
  · rw [hf] at zd za zb
    obtain rfl : d = 0 := zd (by decide)
    obtain rfl : a = 0 := za (by decide)
    obtain rfl : b = 0 := zb (by decide)
    exact isaReads_800 op imm w hr hf (by simp [readsL, hr, hf, hasAB, hasBB])

end Go.Proofs.Ytegalldldcaocaa
