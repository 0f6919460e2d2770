/-
How many cells each instruction has in a split: the plain law of SplitEach. No condition.
-/
import Derived.Test.YtkfmecmmbnehjaaGreatSf
import Derived.Test.YtkfmecmmbnehjaaGreatBj
namespace Go.Proofs.YtkfmecmmbnehjaaGreat
set_option linter.unusedSimpArgs false
set_option linter.unusedVariables false

theorem aCells_pc {i : Ins} {o : List Int} {pc off : Int} : ∀ c ∈ aCells i o pc off, c.pc = pc ∧ c.off = off := by
  intro c hc
  unfold aCells at hc
  (repeat' split at hc) <;> simp only [List.mem_cons, List.not_mem_nil, or_false, List.mem_append, List.mem_map] at hc
  all_goals first | (rcases hc with rfl | rfl <;> exact ⟨rfl, rfl⟩) | (rcases hc with ⟨r, _, rfl⟩ | rfl <;> exact ⟨rfl, rfl⟩) | (obtain ⟨r, _, rfl⟩ := hc; exact ⟨rfl, rfl⟩) | (subst hc; exact ⟨rfl, rfl⟩)
theorem eCells_pc {i : Ins} {o : List Int} {pc off : Int} : ∀ c ∈ eCells i o pc off, c.pc = pc ∧ c.off = off := by
  intro c hc
  unfold eCells at hc
  (repeat' split at hc) <;> simp only [List.mem_cons, List.not_mem_nil, or_false, List.mem_append, List.mem_map] at hc
  all_goals first | (rcases hc with rfl | rfl <;> exact ⟨rfl, rfl⟩) | (rcases hc with ⟨r, _, rfl⟩ | rfl <;> exact ⟨rfl, rfl⟩) | (obtain ⟨r, _, rfl⟩ := hc; exact ⟨rfl, rfl⟩) | (subst hc; exact ⟨rfl, rfl⟩) | cases hc
section
variable {f : Ins → List Int → Int → Int → List Cell}
theorem iCells_mem (hf : ∀ (i : Ins) (o : List Int) (pc off : Int), ∀ c ∈ f i o pc off, c.pc = pc ∧ c.off = off) {code : List Ins} {o : List Int} {F n : Nat} {c : Cell} (h : c ∈ iCells f code o F n) : ∃ j : Nat, j < n ∧ c.pc = ((F + j : Nat) : Int) ∧ c.off = (j : Int) := by
  unfold iCells at h
  obtain ⟨j, hj, h⟩ := List.mem_flatMap.1 h
  have hjn := List.mem_range.1 hj
  split at h
  · obtain ⟨h1, h2⟩ := hf _ _ _ _ c h
    exact ⟨j, hjn, h1, h2⟩
  · cases h
end
def cnt (m : Nat) (cs : List Cell) : Nat := cs.countP (fun c => c.pc == (m : Int))
/-- where the k-th block begins -/
def bdAt (p : Prg) (k : Nat) : Nat := if h : k < (leadL p).length then (leadL p)[k].toNat else p.code.length
theorem cutL_leads (p : Prg) : (cutL p).length = (leadL p).length := by simp [cutL, cutF]
theorem blk_bd {p : Prg} {k : Nat} {b : Blk4} (h : (cutL p)[k]? = some b) : b.from_ = (bdAt p k : Int) ∧ b.to_ = (bdAt p (k + 1) : Int) ∧ bdAt p k < bdAt p (k + 1) ∧ bdAt p (k + 1) ≤ p.code.length := by
  have hk : k < (leadL p).length := by
    have := (List.getElem?_eq_some_iff.1 h).1
    rw [cutL_leads] at this; exact this
  rw [cut_at hk] at h
  cases h
  have h1 := toAt_gt hk
  have h2 := toAt_le p k
  have h3 := (lead_bd (p := p) (List.getElem_mem hk)).1
  have e1 : (blkAt p (leadL p) k).from_ = (bdAt p k : Int) := by
    unfold bdAt
    rw [dif_pos hk, blk_from (List.getElem?_eq_getElem hk)]; omega
  have e2 : toAt p (leadL p) k = (bdAt p (k + 1) : Int) := by
    unfold bdAt toAt
    by_cases h4 : k + 1 < (leadL p).length
    · have := (lead_bd (p := p) (List.getElem_mem h4)).1
      rw [if_pos h4, dif_pos h4, List.getD_eq_getElem?_getD, List.getElem?_eq_getElem h4]
      simp only [Option.getD_some]; omega
    · rw [if_neg h4, dif_neg h4]
  have e3 : (leadL p)[k] = (bdAt p k : Int) := by unfold bdAt; rw [dif_pos hk]; omega
  refine ⟨e1, by rw [blk_to]; exact e2, ?_, ?_⟩ <;> omega
theorem sbAt_cells {p : Prg} {o : List Int} {k : Nat} {b : Blk4} (h : (cutL p)[k]? = some b) : (sbAt p o b).a = iCells aCells p.code o (bdAt p k) (bdAt p (k + 1) - bdAt p k) ∧ (sbAt p o b).e = iCells eCells p.code o (bdAt p k) (bdAt p (k + 1) - bdAt p k) := by
  obtain ⟨h1, h2, h3, _⟩ := blk_bd h
  unfold sbAt
  rw [h1, h2, show ((bdAt p k : Nat) : Int).toNat = bdAt p k by omega, show (((bdAt p (k + 1) : Nat) : Int) - ((bdAt p k : Nat) : Int)).toNat = bdAt p (k + 1) - bdAt p k by omega]
  exact ⟨rfl, rfl⟩
theorem splitL_fit {p : Prg} (hr : rightP p = true) (o : List Int) : sbsFit (splitL p o) = true := by
  have h1 := cutL_pos hr
  have h2 := right_len hr
  unfold sbsFit
  simp only [Bool.and_eq_true, decide_eq_true_eq, List.all_eq_true]
  refine ⟨by rw [splitL_len]; omega, fun b hb => ?_⟩
  unfold splitL at hb
  obtain ⟨b0, hb0, rfl⟩ := List.mem_map.1 hb
  obtain ⟨k, hk, rfl⟩ := List.getElem_of_mem hb0
  obtain ⟨s1, s2⟩ := sbAt_cells (o := o) (List.getElem?_eq_getElem hk)
  obtain ⟨_, _, h3, h4⟩ := blk_bd (List.getElem?_eq_getElem hk)
  have l1 := iCells_len aCells_len p.code o (bdAt p k) (bdAt p (k + 1) - bdAt p k)
  have l2 := iCells_len eCells_len p.code o (bdAt p k) (bdAt p (k + 1) - bdAt p k)
  unfold sbFit
  simp only [Bool.and_eq_true, decide_eq_true_eq]
  rw [s1, s2]
  omega
/-- what SplitEach asks of each cell -/
theorem cell_ok {p : Prg} {o : List Int} {k : Nat} {b : Blk4} (h : (cutL p)[k]? = some b) {c : Cell} (hc : c ∈ (sbAt p o b).a ++ (sbAt p o b).e) : ∃ m : Nat, c.pc = (m : Int) ∧ bdAt p k ≤ m ∧ m < bdAt p (k + 1) ∧ c.off = ((m - bdAt p k : Nat) : Int) := by
  obtain ⟨s1, s2⟩ := sbAt_cells (o := o) h
  obtain ⟨_, _, h3, _⟩ := blk_bd h
  rw [s1, s2] at hc
  rcases List.mem_append.1 hc with hc | hc
  · obtain ⟨j, hj, h1, h2⟩ := iCells_mem (fun _ _ _ _ => aCells_pc) hc
    exact ⟨bdAt p k + j, h1, by omega, by omega, by rw [h2, Nat.add_sub_cancel_left]⟩
  · obtain ⟨j, hj, h1, h2⟩ := iCells_mem (fun _ _ _ _ => eCells_pc) hc
    exact ⟨bdAt p k + j, h1, by omega, by omega, by rw [h2, Nat.add_sub_cancel_left]⟩
end Go.Proofs.YtkfmecmmbnehjaaGreat
