/-
What blocks are: the plain law. No program in sight.
-/
import Derived.Test.YtalcmfmhifcaeaaGreatBg
namespace Go.Proofs.YtalcmfmhifcaeaaGreat
set_option linter.unusedSimpArgs false
set_option linter.unusedVariables false

theorem lead_of {p : Prg} {j : Nat} (hj : j < p.code.length) (h : isLead p j = true) : (j : Int) ∈ leadL p := by
  unfold leadL
  exact List.mem_map.2 ⟨j, List.mem_filter.2 ⟨by simpa using hj, h⟩, rfl⟩
theorem of_lead {p : Prg} {j : Nat} (h : (j : Int) ∈ leadL p) : j < p.code.length ∧ isLead p j = true := by
  unfold leadL at h
  obtain ⟨k, hk, e⟩ := List.mem_map.1 h
  obtain ⟨h1, h2⟩ := List.mem_filter.1 hk
  have : k = j := by omega
  subst this
  exact ⟨by simpa using h1, h2⟩
theorem lead_zero {p : Prg} (h : rightP p = true) : (leadL p)[0]? = some 0 := by
  have hpl := right_len h
  have hm : (0 : Int) ∈ leadL p := lead_of (j := 0) (by omega) (by simp [isLead, flagAt])
  obtain ⟨i, hi, hv⟩ := List.getElem_of_mem hm
  have hg : (leadL p)[i]? = some 0 := by rw [List.getElem?_eq_getElem hi, hv]
  rcases Nat.eq_zero_or_pos i with rfl | hp
  · exact hg
  · obtain ⟨a, ha⟩ : ∃ a, (leadL p)[0]? = some a := ⟨(leadL p)[0]'(by omega), List.getElem?_eq_getElem (by omega)⟩
    have h1 := inc_get (leadL_inc p) ha hg hp
    have h2 := lead_bd (List.mem_of_getElem? ha)
    omega
/-- no block begins within another -/
theorem lead_within {p : Prg} {i : Nat} {a x : Int} (ha : (leadL p)[i]? = some a) (hx : x ∈ leadL p) (h1 : a < x) : toAt p (leadL p) i ≤ x := by
  obtain ⟨j, hj, hv⟩ := List.getElem_of_mem hx
  have hg : (leadL p)[j]? = some x := by rw [List.getElem?_eq_getElem hj, hv]
  have hij : i < j := by
    rcases Nat.lt_trichotomy i j with h | h | h
    · exact h
    · subst h; rw [ha] at hg; cases hg; omega
    · have := inc_get (leadL_inc p) hg ha h; omega
  unfold toAt
  rw [if_pos (by omega)]
  obtain ⟨b, hb⟩ : ∃ b, (leadL p)[i + 1]? = some b := ⟨(leadL p)[i + 1]'(by omega), List.getElem?_eq_getElem (by omega)⟩
  rw [List.getD_eq_getElem?_getD, hb, Option.getD_some]
  rcases Nat.lt_or_ge (i + 1) j with h | h
  · have := inc_get (leadL_inc p) hb hg h; omega
  · have : j = i + 1 := by omega
    subst this
    rw [hb] at hg; cases hg; omega
theorem toAt_bd {p : Prg} {i : Nat} {a : Int} (ha : (leadL p)[i]? = some a) : a < toAt p (leadL p) i ∧ toAt p (leadL p) i ≤ p.code.length := by
  unfold toAt
  split
  · rename_i h
    obtain ⟨b, hb⟩ : ∃ b, (leadL p)[i + 1]? = some b := ⟨(leadL p)[i + 1]'(by omega), List.getElem?_eq_getElem (by omega)⟩
    rw [List.getD_eq_getElem?_getD, hb, Option.getD_some]
    have := inc_get (leadL_inc p) ha hb (by omega)
    have := lead_bd (List.mem_of_getElem? hb)
    omega
  · have := lead_bd (List.mem_of_getElem? ha)
    omega
theorem end_lead {p : Prg} {n : Nat} (h1 : n + 1 < p.code.length) (h2 : endAt p n = true) : ((n + 1 : Nat) : Int) ∈ leadL p := by
  refine lead_of h1 ?_
  unfold isLead flagAt
  simp [h2]; omega
theorem form_end {i : Ins} (h : rightB i = true) (he : endB i = false) : form i.op < 6 := by
  simp only [endB, brB, Bool.or_eq_false_iff, beq_eq_false_iff_ne, ne_eq] at he
  obtain ⟨⟨h6, h7⟩, h8⟩ := he
  have hf := right_fit h
  have h0 := hf.op0; have h1 := hf.op1
  revert h6 h7 h8
  simp only [form]
  (repeat' split) <;> omega
/-- within a block nothing ends one -/
theorem in_block {p : Prg} (hr : rightP p = true) {i n : Nat} {a : Int} {x : Ins} (ha : (leadL p)[i]? = some a) (h0 : a ≤ n) (h1 : ((n + 1 : Nat) : Int) < toAt p (leadL p) i) (hx : p.code[n]? = some x) : form x.op < 6 ∧ brB x = false := by
  have hb := toAt_bd ha
  have he : endB x = false := by
    cases c : endB x with
    | false => rfl
    | true =>
      have : endAt p n = true := by unfold endAt; rw [hx]; exact c
      have := lead_within ha (end_lead (by omega) this) (by omega)
      omega
  refine ⟨form_end (right_at hr hx).1 he, ?_⟩
  simp only [endB, Bool.or_eq_false_iff] at he
  exact he.1
/-- at a block's end: where it leads -/
theorem at_end {p : Prg} (hr : rightP p = true) {i n : Nat} {x : Ins} (h1 : ((n + 1 : Nat) : Int) = toAt p (leadL p) i) (hx : p.code[n]? = some x) (hb : brB x = true) : ∃ j : Nat, (blkAt p (leadL p) i).taken = j ∧ j < (leadL p).length ∧ (leadL p)[j]? = some ((n : Int) + x.imm) := by
  obtain ⟨t, ht⟩ : ∃ t : Nat, (n : Int) + x.imm = t := ⟨((n : Int) + x.imm).toNat, by have := (right_at hr hx).2 hb; omega⟩
  have hm := lead_tgt hr hx hb ht
  obtain ⟨j, hj, hv⟩ := List.getElem_of_mem hm
  have hg : (leadL p)[j]? = some (t : Int) := by rw [List.getElem?_eq_getElem hj, hv]
  refine ⟨j, ?_, hj, by rw [ht]; exact hg⟩
  unfold blkAt
  have e1 : (toAt p (leadL p) i - 1).toNat = n := by omega
  have e3 : tgt p n = some t := by unfold tgt; rw [hx]; simp only [Option.bind_some, if_pos hb, ht, Int.toNat_natCast]
  simp only [e1, e3]
  exact idx_inc (leadL_inc p) hg
theorem blk_next (p : Prg) (i : Nat) : (blkAt p (leadL p) i).next = -1 ∨ ((blkAt p (leadL p) i).next = ((i + 1 : Nat) : Int) ∧ i + 1 < (leadL p).length) := by
  unfold blkAt
  simp only
  split
  · rename_i h; exact .inr ⟨rfl, h.1⟩
  · exact .inl rfl
theorem cut_at {p : Prg} {i : Nat} (h : i < (leadL p).length) : (cutL p)[i]? = some (blkAt p (leadL p) i) := by
  simp [cutL, cutF, h]
theorem blk_from {p : Prg} {i : Nat} {a : Int} (ha : (leadL p)[i]? = some a) : (blkAt p (leadL p) i).from_ = a := by
  unfold blkAt
  simp only [List.getD_eq_getElem?_getD, ha, Option.getD_some]
theorem blk_to (p : Prg) (i : Nat) : (blkAt p (leadL p) i).to_ = toAt p (leadL p) i := rfl

end Go.Proofs.YtalcmfmhifcaeaaGreat
