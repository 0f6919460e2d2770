/-
What blocks are: the plain law. No program in sight.
-/
import Derived.Test.YtkfmecmmbnehjaaGreatBg
namespace Go.Proofs.YtkfmecmmbnehjaaGreat
set_option linter.unusedSimpArgs false
set_option linter.unusedVariables false

theorem lead_of {p : Prg} {j : Nat} (hj : j < p.code.length) (h : isLead p j = true) : (j : Int) ∈ leadL p := by
  unfold leadL
  exact List.mem_map.2 ⟨j, List.mem_filter.2 ⟨by simpa using hj, h⟩, rfl⟩
/-- no block begins within another -/
theorem lead_within {p : Prg} {i : Nat} {a x : Int} (ha : (leadL p)[i]? = some a) (hx : x ∈ leadL p) (h1 : a < x) : toAt p (leadL p) i ≤ x := by
  obtain ⟨j, hj, hv⟩ := List.getElem_of_mem hx
  have hg : (leadL p)[j]? = some x := by rw [List.getElem?_eq_getElem hj, hv]
  have hij : i < j := by
    rcases Nat.lt_trichotomy i j with h | h | h
    · exact h
    · subst h; rw [ha] at hg; cases hg; omega
    · have := inc_get (leadL_inc p) hg ha h; omega
  unfold toAt
  rw [if_pos (by omega)]
  obtain ⟨b, hb⟩ : ∃ b, (leadL p)[i + 1]? = some b := ⟨(leadL p)[i + 1]'(by omega), List.getElem?_eq_getElem (by omega)⟩
  rw [List.getD_eq_getElem?_getD, hb, Option.getD_some]
  rcases Nat.lt_or_ge (i + 1) j with h | h
  · have := inc_get (leadL_inc p) hb hg h; omega
  · have : j = i + 1 := by omega
    subst this
    rw [hb] at hg; cases hg; omega
theorem toAt_bd {p : Prg} {i : Nat} {a : Int} (ha : (leadL p)[i]? = some a) : a < toAt p (leadL p) i ∧ toAt p (leadL p) i ≤ p.code.length := by
  unfold toAt
  split
  · rename_i h
    obtain ⟨b, hb⟩ : ∃ b, (leadL p)[i + 1]? = some b := ⟨(leadL p)[i + 1]'(by omega), List.getElem?_eq_getElem (by omega)⟩
    rw [List.getD_eq_getElem?_getD, hb, Option.getD_some]
    have := inc_get (leadL_inc p) ha hb (by omega)
    have := lead_bd (List.mem_of_getElem? hb)
    omega
  · have := lead_bd (List.mem_of_getElem? ha)
    omega
theorem end_lead {p : Prg} {n : Nat} (h1 : n + 1 < p.code.length) (h2 : endAt p n = true) : ((n + 1 : Nat) : Int) ∈ leadL p := by
  refine lead_of h1 ?_
  unfold isLead flagAt
  simp [h2]; omega
theorem form_end {i : Ins} (h : rightB i = true) (he : endB i = false) : form i.op < 6 := by
  simp only [endB, brB, Bool.or_eq_false_iff, beq_eq_false_iff_ne, ne_eq] at he
  obtain ⟨⟨h6, h7⟩, h8⟩ := he
  have hf := right_fit h
  have h0 := hf.op0; have h1 := hf.op1
  revert h6 h7 h8
  simp only [form]
  (repeat' split) <;> omega
/-- within a block nothing ends one -/
theorem in_block {p : Prg} (hr : rightP p = true) {i n : Nat} {a : Int} {x : Ins} (ha : (leadL p)[i]? = some a) (h0 : a ≤ n) (h1 : ((n + 1 : Nat) : Int) < toAt p (leadL p) i) (hx : p.code[n]? = some x) : form x.op < 6 ∧ brB x = false := by
  have hb := toAt_bd ha
  have he : endB x = false := by
    cases c : endB x with
    | false => rfl
    | true =>
      have : endAt p n = true := by unfold endAt; rw [hx]; exact c
      have := lead_within ha (end_lead (by omega) this) (by omega)
      omega
  refine ⟨form_end (right_at hr hx).1 he, ?_⟩
  simp only [endB, Bool.or_eq_false_iff] at he
  exact he.1
theorem cut_at {p : Prg} {i : Nat} (h : i < (leadL p).length) : (cutL p)[i]? = some (blkAt p (leadL p) i) := by
  simp [cutL, cutF, h]
theorem blk_from {p : Prg} {i : Nat} {a : Int} (ha : (leadL p)[i]? = some a) : (blkAt p (leadL p) i).from_ = a := by
  unfold blkAt
  simp only [List.getD_eq_getElem?_getD, ha, Option.getD_some]
theorem blk_to (p : Prg) (i : Nat) : (blkAt p (leadL p) i).to_ = toAt p (leadL p) i := rfl

end Go.Proofs.YtkfmecmmbnehjaaGreat
