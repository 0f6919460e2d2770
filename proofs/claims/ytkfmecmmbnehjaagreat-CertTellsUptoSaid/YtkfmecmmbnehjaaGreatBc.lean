/-
The plain law of where blocks begin: what is found, sorted, each once. No condition.
-/
import Derived.Test.YtkfmecmmbnehjaaGreatBb
namespace Go.Proofs.YtkfmecmmbnehjaaGreat
set_option linter.unusedSimpArgs false
set_option linter.unusedVariables false

theorem inc_ext : ∀ (l m : List Int), l.Pairwise (· < ·) → m.Pairwise (· < ·) → (∀ x, x ∈ l ↔ x ∈ m) → l = m
  | [], [], _, _, _ => rfl
  | [], b :: m, _, _, h => by have := (h b).2 (by simp); cases this
  | a :: l, [], _, _, h => by have := (h a).1 (by simp); cases this
  | a :: l, b :: m, h1, h2, h => by
    rw [List.pairwise_cons] at h1 h2
    have e : a = b := by
      have ha := (h a).1 (by simp)
      have hb := (h b).2 (by simp)
      rcases List.mem_cons.1 ha with e | ha
      · exact e
      · rcases List.mem_cons.1 hb with e | hb
        · exact e.symm
        · have := h1.1 b hb; have := h2.1 a ha; omega
    subst e
    rw [inc_ext l m h1.2 h2.2 fun x => ⟨fun hx => by
      have hlt := h1.1 x hx
      rcases List.mem_cons.1 ((h x).1 (by simp [hx])) with e | hm
      · omega
      · exact hm, fun hx => by
      have hlt := h2.1 x hx
      rcases List.mem_cons.1 ((h x).2 (by simp [hx])) with e | hm
      · omega
      · exact hm⟩]
theorem sortI_sorted (c : List Int) : (sortI c).Pairwise (· ≤ ·) :=
  (List.pairwise_mergeSort (le := fun x y => decide (x ≤ y)) (fun a b c h1 h2 => by simp at *; omega) (fun a b => by simp; omega) c).imp fun h => by simpa using h
theorem sortI_mem (c : List Int) (x : Int) : x ∈ sortI c ↔ x ∈ c := (List.mergeSort_perm c _).mem_iff
theorem le_of_sorted {s : List Int} (h : s.Pairwise (· ≤ ·)) {a b : Nat} (hb : b < s.length) (hab : a ≤ b) : s[a]'(by omega) ≤ s[b] := by
  rcases Nat.lt_or_eq_of_le hab with h1 | h1
  · exact List.pairwise_iff_getElem.1 h a b (by omega) hb h1
  · subst h1; exact Int.le_refl _
theorem compact_eq (s : List Int) : Lib.compact s = ((List.range s.length).filter fun j => decide (j = 0 ∨ s.getD j 0 ≠ s.getD (j - 1) 0)).map fun j => s.getD j 0 := by
  have e : ∀ j, j < s.length → (s.toArray)[j]! = s.getD j 0 := fun j hj => by
    rw [getElem!_pos s.toArray j (by simpa using hj), List.getD_eq_getElem?_getD, List.getElem?_eq_getElem hj]; simp
  unfold Lib.compact Lib.compactUpTo
  have h1 : (List.range s.length).filter (Lib.keeps s.toArray) = (List.range s.length).filter fun j => decide (j = 0 ∨ s.getD j 0 ≠ s.getD (j - 1) 0) := by
    apply List.filter_congr
    intro j hj
    have hj' : j < s.length := by simpa using hj
    unfold Lib.keeps
    rw [e j hj', e (j - 1) (by omega)]
  rw [h1]
  apply List.map_congr_left
  intro j hj
  exact e j (by simpa using (List.mem_filter.1 hj).1)
theorem getD_lt {s : List Int} {j : Nat} (h : j < s.length) : s.getD j 0 = s[j] := by rw [List.getD_eq_getElem?_getD, List.getElem?_eq_getElem h]; rfl
theorem compact_mem (s : List Int) (x : Int) : x ∈ Lib.compact s ↔ x ∈ s := by
  rw [compact_eq]
  constructor
  · intro h
    obtain ⟨j, hj, rfl⟩ := List.mem_map.1 h
    have hj' : j < s.length := by simpa using (List.mem_filter.1 hj).1
    rw [getD_lt hj']
    exact List.getElem_mem hj'
  · intro h
    obtain ⟨j, hj, rfl⟩ := List.getElem_of_mem h
    have : ∀ j, j < s.length → s.getD j 0 ∈ ((List.range s.length).filter fun j => decide (j = 0 ∨ s.getD j 0 ≠ s.getD (j - 1) 0)).map fun j => s.getD j 0 := by
      intro j
      induction j with
      | zero => intro hj; exact List.mem_map.2 ⟨0, List.mem_filter.2 ⟨by simpa using hj, by simp⟩, rfl⟩
      | succ j ih =>
        intro hj
        by_cases hk : s.getD (j + 1) 0 = s.getD j 0
        · rw [hk]; exact ih (by omega)
        · exact List.mem_map.2 ⟨j + 1, List.mem_filter.2 ⟨by simpa using hj, by simp only [decide_eq_true_eq]; exact .inr hk⟩, rfl⟩
    have := this j hj
    rw [getD_lt hj] at this
    exact this
theorem compact_inc (s : List Int) (h : s.Pairwise (· ≤ ·)) : (Lib.compact s).Pairwise (· < ·) := by
  rw [compact_eq, List.pairwise_map]
  have h0 : (List.range s.length).Pairwise (· < ·) := List.pairwise_lt_range
  have h1 := h0.filter fun j => decide (j = 0 ∨ s.getD j 0 ≠ s.getD (j - 1) 0)
  refine List.Pairwise.imp_of_mem ?_ h1
  intro a b ha hb hab
  have hb' : b < s.length := by simpa using (List.mem_filter.1 hb).1
  have hk := (List.mem_filter.1 hb).2
  simp only [decide_eq_true_eq] at hk
  have hne : s.getD b 0 ≠ s.getD (b - 1) 0 := by
    rcases hk with hk | hk
    · omega
    · exact hk
  have h2 := le_of_sorted h hb' (show a ≤ b by omega)
  have h3 := le_of_sorted h (show b - 1 < s.length by omega) (show a ≤ b - 1 by omega)
  have h4 := le_of_sorted h hb' (show b - 1 ≤ b by omega)
  rw [getD_lt hb', getD_lt (show b - 1 < s.length by omega)] at hne
  rw [getD_lt hb', getD_lt (show a < s.length by omega)]
  omega

def endAt (p : Prg) (n : Nat) : Bool := match p.code[n]? with
  | some i => endB i
  | none => false
/-- does a block begin there? as far as k instructions tell -/
def flagAt (p : Prg) (k j : Nat) : Bool := j == 0 || (List.range k).any (fun n => tgt p n == some j) || (decide (0 < j) && decide (j ≤ k) && endAt p (j - 1))
def isLead (p : Prg) (j : Nat) : Bool := flagAt p p.code.length j
def leadL (p : Prg) : List Int := ((List.range p.code.length).filter (isLead p)).map fun (k : Nat) => (k : Int)
theorem leadL_inc (p : Prg) : (leadL p).Pairwise (· < ·) := by
  unfold leadL
  rw [List.pairwise_map]
  exact (List.pairwise_lt_range.filter _).imp fun h => by omega
theorem outL_mem (p : Prg) (k : Nat) (hk : k ≤ p.code.length) (hr : rightP p = true) (x : Int) : x ∈ outL p k ↔ ∃ j : Nat, x = j ∧ j < p.code.length ∧ flagAt p k j = true := by
  have hl := right_len hr
  induction k with
  | zero =>
    simp only [outL, List.mem_singleton, flagAt, List.range_zero, List.any_nil, Bool.or_false, Bool.or_eq_true, beq_iff_eq, Bool.and_eq_true, decide_eq_true_eq]
    constructor
    · rintro rfl; exact ⟨0, rfl, by omega, .inl rfl⟩
    · rintro ⟨j, rfl, _, h | ⟨⟨h1, h2⟩, _⟩⟩
      · subst h; rfl
      · omega
  | succ k ih =>
    obtain ⟨i, q⟩ : ∃ i, p.code[k]? = some i := ⟨p.code[k], List.getElem?_eq_getElem (by omega)⟩
    have ht : tgt p k = if brB i = true then some ((k : Int) + i.imm).toNat else none := by unfold tgt; rw [q]; rfl
    have he : endAt p k = endB i := by unfold endAt; rw [q]
    have hb := (right_at hr q).2
    have ih' := ih (by omega)
    rw [outL_succ q, List.mem_append, propext ih', List.mem_append]
    have hfl : ∀ j, flagAt p (k + 1) j = (flagAt p k j || (tgt p k == some j) || (j == k + 1 && endAt p k)) := by
      intro j
      unfold flagAt
      rw [List.range_succ, List.any_append]
      simp only [List.any_cons, List.any_nil, Bool.or_false]
      by_cases hj : j = k + 1
      · subst hj
        have : ¬ k + 1 ≤ k := by omega
        simp [this]
      · have e1 : decide (j ≤ k + 1) = decide (j ≤ k) := by rw [decide_eq_decide]; omega
        have e2 : (j == k + 1) = false := by simpa using hj
        rw [e1, e2]
        cases (j == 0) <;> cases (List.range k).any (fun n => tgt p n == some j) <;> cases (tgt p k == some j) <;> cases (decide (0 < j) && decide (j ≤ k) && endAt p (j - 1)) <;> rfl
    constructor
    · rintro (⟨j, rfl, h1, h2⟩ | h | h)
      · exact ⟨j, rfl, h1, by rw [hfl, h2]; rfl⟩
      · split at h
        · rename_i hbr
          have := hb hbr
          simp only [List.mem_singleton] at h
          subst h
          refine ⟨((k : Int) + i.imm).toNat, by omega, by omega, ?_⟩
          rw [hfl, ht, if_pos hbr]
          simp
        · cases h
      · split at h
        · rename_i hen
          simp only [List.mem_singleton] at h
          subst h
          refine ⟨k + 1, rfl, hen.2, ?_⟩
          rw [hfl, he, hen.1]
          simp
        · cases h
    · rintro ⟨j, rfl, h1, h2⟩
      rw [hfl] at h2
      simp only [Bool.or_eq_true, Bool.and_eq_true, beq_iff_eq] at h2
      rcases h2 with (h2 | h2) | ⟨h2, h3⟩
      · exact .inl ⟨j, rfl, h1, h2⟩
      · right; left
        rw [ht] at h2
        split at h2
        · rename_i hbr
          have := hb hbr
          simp only [Option.some.injEq] at h2
          rw [if_pos hbr, List.mem_singleton]; omega
        · cases h2
      · right; right
        rw [he] at h3
        subst h2
        rw [if_pos ⟨h3, h1⟩]; simp
theorem leadC_eq {p : Prg} (h : rightP p = true) : leadC p = leadL p := by
  refine inc_ext _ _ (compact_inc _ (sortI_sorted _)) (leadL_inc p) fun x => ?_
  unfold leadC leadL
  rw [compact_mem, sortI_mem, outL_mem p _ (Nat.le_refl _) h]
  simp only [List.mem_map, List.mem_filter, List.mem_range, isLead]
  exact ⟨fun ⟨j, h1, h2, h3⟩ => ⟨j, ⟨h2, h3⟩, h1.symm⟩, fun ⟨j, ⟨h2, h3⟩, h1⟩ => ⟨j, h1.symm, h2, h3⟩⟩

end Go.Proofs.YtkfmecmmbnehjaaGreat
