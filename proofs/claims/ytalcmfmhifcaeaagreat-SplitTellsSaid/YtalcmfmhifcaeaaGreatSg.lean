/-
How many cells each instruction has in a split: the plain law of SplitEach. No condition.
-/
import Derived.Test.YtalcmfmhifcaeaaGreatSf
import Derived.Test.YtalcmfmhifcaeaaGreatBj
namespace Go.Proofs.YtalcmfmhifcaeaaGreat
set_option linter.unusedSimpArgs false
set_option linter.unusedVariables false

theorem aCells_pc {i : Ins} {o : List Int} {pc off : Int} : ∀ c ∈ aCells i o pc off, c.pc = pc ∧ c.off = off := by
  intro c hc
  unfold aCells at hc
  (repeat' split at hc) <;> simp only [List.mem_cons, List.not_mem_nil, or_false, List.mem_append, List.mem_map] at hc
  all_goals first | (rcases hc with rfl | rfl <;> exact ⟨rfl, rfl⟩) | (rcases hc with ⟨r, _, rfl⟩ | rfl <;> exact ⟨rfl, rfl⟩) | (obtain ⟨r, _, rfl⟩ := hc; exact ⟨rfl, rfl⟩) | (subst hc; exact ⟨rfl, rfl⟩)
theorem eCells_pc {i : Ins} {o : List Int} {pc off : Int} : ∀ c ∈ eCells i o pc off, c.pc = pc ∧ c.off = off := by
  intro c hc
  unfold eCells at hc
  (repeat' split at hc) <;> simp only [List.mem_cons, List.not_mem_nil, or_false, List.mem_append, List.mem_map] at hc
  all_goals first | (rcases hc with rfl | rfl <;> exact ⟨rfl, rfl⟩) | (rcases hc with ⟨r, _, rfl⟩ | rfl <;> exact ⟨rfl, rfl⟩) | (obtain ⟨r, _, rfl⟩ := hc; exact ⟨rfl, rfl⟩) | (subst hc; exact ⟨rfl, rfl⟩) | cases hc
theorem cells_some {i : Ins} (h : rightB i = true) (o : List Int) (pc off pc2 off2 : Int) : 1 ≤ (aCells i o pc off).length + (eCells i o pc2 off2).length := by
  unfold aCells eCells
  rw [if_pos h, if_pos h]
  (repeat' split) <;> simp <;> omega
section
variable {f : Ins → List Int → Int → Int → List Cell}
theorem iCells_mem (hf : ∀ (i : Ins) (o : List Int) (pc off : Int), ∀ c ∈ f i o pc off, c.pc = pc ∧ c.off = off) {code : List Ins} {o : List Int} {F n : Nat} {c : Cell} (h : c ∈ iCells f code o F n) : ∃ j : Nat, j < n ∧ c.pc = ((F + j : Nat) : Int) ∧ c.off = (j : Int) := by
  unfold iCells at h
  obtain ⟨j, hj, h⟩ := List.mem_flatMap.1 h
  have hjn := List.mem_range.1 hj
  split at h
  · obtain ⟨h1, h2⟩ := hf _ _ _ _ c h
    exact ⟨j, hjn, h1, h2⟩
  · cases h
theorem iCells_sorted (hf : ∀ (i : Ins) (o : List Int) (pc off : Int), ∀ c ∈ f i o pc off, c.pc = pc ∧ c.off = off) (code : List Ins) (o : List Int) (F n : Nat) : (iCells f code o F n).Pairwise (fun x y => x.pc ≤ y.pc) := by
  induction n with
  | zero => exact .nil
  | succ n ih =>
    have e : iCells f code o F (n + 1) = iCells f code o F n ++ (match code[F + n]? with
      | some i => f i o ((F + n : Nat) : Int) (n : Int)
      | none => []) := by
      unfold iCells
      rw [List.range_succ, List.flatMap_append]
      congr 1
      simp only [List.flatMap_cons, List.flatMap_nil, List.append_nil]
      try rfl
    rw [e, List.pairwise_append]
    refine ⟨ih, ?_, fun x hx y hy => ?_⟩
    · split
      · rw [List.pairwise_iff_forall_sublist]
        intro x y hs
        have hx := hs.subset (a := x) (by simp)
        have hy := hs.subset (a := y) (by simp)
        rw [(hf _ _ _ _ x hx).1, (hf _ _ _ _ y hy).1]; exact Int.le_refl _
      · exact .nil
    · obtain ⟨j, hj, hp, _⟩ := iCells_mem hf hx
      split at hy
      · rw [hp, (hf _ _ _ _ y hy).1]; omega
      · cases hy
theorem iCells_cnt (hf : ∀ (i : Ins) (o : List Int) (pc off : Int), ∀ c ∈ f i o pc off, c.pc = pc ∧ c.off = off) {code : List Ins} {o : List Int} {F : Nat} (m : Nat) : ∀ n : Nat, (iCells f code o F n).countP (fun c => c.pc == (m : Int)) = if F ≤ m ∧ m < F + n then (match code[m]? with
      | some i => (f i o (m : Int) ((m - F : Nat) : Int)).length
      | none => 0) else 0
  | 0 => by
    rw [if_neg (by omega)]; rfl
  | n + 1 => by
    have e : iCells f code o F (n + 1) = iCells f code o F n ++ (match code[F + n]? with
      | some i => f i o ((F + n : Nat) : Int) (n : Int)
      | none => []) := by
      unfold iCells
      rw [List.range_succ, List.flatMap_append]
      congr 1
      simp only [List.flatMap_cons, List.flatMap_nil, List.append_nil]
      try rfl
    rw [e, List.countP_append, iCells_cnt hf m n]
    by_cases hm : m = F + n
    · subst hm
      rw [if_neg (by omega), if_pos (by omega), Nat.zero_add]
      cases hc : code[F + n]? with
      | none => rfl
      | some i =>
        simp only
        rw [Nat.add_sub_cancel_left, List.countP_eq_length.2]
        intro c hc
        rw [(hf _ _ _ _ c hc).1]; simp
    · have h0 : (match code[F + n]? with
        | some i => f i o ((F + n : Nat) : Int) (n : Int)
        | none => []).countP (fun c : Cell => c.pc == (m : Int)) = 0 := by
        rw [List.countP_eq_zero]
        intro c hc
        split at hc
        · rw [(hf _ _ _ _ c hc).1]; simp; omega
        · cases hc
      rw [h0, Nat.add_zero]
      by_cases h1 : F ≤ m ∧ m < F + n
      · rw [if_pos h1, if_pos (by omega)]
      · rw [if_neg h1, if_neg (by omega)]
end
def cnt (m : Nat) (cs : List Cell) : Nat := cs.countP (fun c => c.pc == (m : Int))
theorem cnt_append (m : Nat) (a b : List Cell) : cnt m (a ++ b) = cnt m a + cnt m b := List.countP_append
/-- where the k-th block begins -/
def bdAt (p : Prg) (k : Nat) : Nat := if h : k < (leadL p).length then (leadL p)[k].toNat else p.code.length
theorem cutL_leads (p : Prg) : (cutL p).length = (leadL p).length := by simp [cutL, cutF]
theorem blk_bd {p : Prg} {k : Nat} {b : Blk4} (h : (cutL p)[k]? = some b) : b.from_ = (bdAt p k : Int) ∧ b.to_ = (bdAt p (k + 1) : Int) ∧ bdAt p k < bdAt p (k + 1) ∧ bdAt p (k + 1) ≤ p.code.length := by
  have hk : k < (leadL p).length := by
    have := (List.getElem?_eq_some_iff.1 h).1
    rw [cutL_leads] at this; exact this
  rw [cut_at hk] at h
  cases h
  have h1 := toAt_gt hk
  have h2 := toAt_le p k
  have h3 := (lead_bd (p := p) (List.getElem_mem hk)).1
  have e1 : (blkAt p (leadL p) k).from_ = (bdAt p k : Int) := by
    unfold bdAt
    rw [dif_pos hk, blk_from (List.getElem?_eq_getElem hk)]; omega
  have e2 : toAt p (leadL p) k = (bdAt p (k + 1) : Int) := by
    unfold bdAt toAt
    by_cases h4 : k + 1 < (leadL p).length
    · have := (lead_bd (p := p) (List.getElem_mem h4)).1
      rw [if_pos h4, dif_pos h4, List.getD_eq_getElem?_getD, List.getElem?_eq_getElem h4]
      simp only [Option.getD_some]; omega
    · rw [if_neg h4, dif_neg h4]
  have e3 : (leadL p)[k] = (bdAt p k : Int) := by unfold bdAt; rw [dif_pos hk]; omega
  refine ⟨e1, by rw [blk_to]; exact e2, ?_, ?_⟩ <;> omega
theorem bd_zero {p : Prg} (h : rightP p = true) : bdAt p 0 = 0 := by
  have := lead_zero h
  obtain ⟨h1, h2⟩ := List.getElem?_eq_some_iff.1 this
  unfold bdAt
  rw [dif_pos h1, h2]; rfl
theorem bd_end (p : Prg) : bdAt p (cutL p).length = p.code.length := by
  unfold bdAt
  rw [dif_neg (by rw [cutL_leads]; omega)]
/-- the cells of the first k blocks -/
def allC (p : Prg) (o : List Int) (k : Nat) : List Cell := ((splitL p o).take k).flatMap fun b => b.a ++ b.e
theorem allC_succ {p : Prg} {o : List Int} {k : Nat} {b : Blk4} (h : (cutL p)[k]? = some b) : allC p o (k + 1) = allC p o k ++ ((sbAt p o b).a ++ (sbAt p o b).e) := by
  unfold allC
  rw [List.take_add_one, splitL_at h]
  simp
theorem sbAt_cells {p : Prg} {o : List Int} {k : Nat} {b : Blk4} (h : (cutL p)[k]? = some b) : (sbAt p o b).a = iCells aCells p.code o (bdAt p k) (bdAt p (k + 1) - bdAt p k) ∧ (sbAt p o b).e = iCells eCells p.code o (bdAt p k) (bdAt p (k + 1) - bdAt p k) := by
  obtain ⟨h1, h2, h3, _⟩ := blk_bd h
  unfold sbAt
  rw [h1, h2, show ((bdAt p k : Nat) : Int).toNat = bdAt p k by omega, show (((bdAt p (k + 1) : Nat) : Int) - ((bdAt p k : Nat) : Int)).toNat = bdAt p (k + 1) - bdAt p k by omega]
  exact ⟨rfl, rfl⟩
theorem cnt_all {p : Prg} (hr : rightP p = true) (o : List Int) (m : Nat) : ∀ k, k ≤ (cutL p).length → (m < bdAt p k → 1 ≤ cnt m (allC p o k) ∧ cnt m (allC p o k) ≤ 6) ∧ (bdAt p k ≤ m → cnt m (allC p o k) = 0)
  | 0, _ => by
    rw [bd_zero hr]
    exact ⟨fun h => by omega, fun _ => rfl⟩
  | k + 1, hk => by
    obtain ⟨i1, i2⟩ := cnt_all hr o m k (by omega)
    have qb : (cutL p)[k]? = some (cutL p)[k] := List.getElem?_eq_getElem (by omega)
    obtain ⟨_, _, h3, h4⟩ := blk_bd qb
    obtain ⟨s1, s2⟩ := sbAt_cells (o := o) qb
    rw [allC_succ (o := o) qb, cnt_append, cnt_append, s1, s2]
    have c1 := iCells_cnt (f := aCells) (fun _ _ _ _ => aCells_pc) (code := p.code) (o := o) (F := bdAt p k) m (bdAt p (k + 1) - bdAt p k)
    have c2 := iCells_cnt (f := eCells) (fun _ _ _ _ => eCells_pc) (code := p.code) (o := o) (F := bdAt p k) m (bdAt p (k + 1) - bdAt p k)
    have e1 : cnt m (iCells aCells p.code o (bdAt p k) (bdAt p (k + 1) - bdAt p k)) = _ := c1
    have e2 : cnt m (iCells eCells p.code o (bdAt p k) (bdAt p (k + 1) - bdAt p k)) = _ := c2
    rw [e1, e2]
    by_cases hin : bdAt p k ≤ m ∧ m < bdAt p k + (bdAt p (k + 1) - bdAt p k)
    · rw [if_pos hin, if_pos hin, i2 hin.1]
      have hm : m < p.code.length := by omega
      have hri := (right_at hr (List.getElem?_eq_getElem hm)).1
      rw [List.getElem?_eq_getElem hm]
      simp only
      have b1 := aCells_len p.code[m] o (m : Int) ((m - bdAt p k : Nat) : Int)
      have b2 := eCells_len p.code[m] o (m : Int) ((m - bdAt p k : Nat) : Int)
      have b3 := cells_some hri o (m : Int) ((m - bdAt p k : Nat) : Int) (m : Int) ((m - bdAt p k : Nat) : Int)
      refine ⟨fun _ => by omega, fun h => by omega⟩
    · rw [if_neg hin, if_neg hin]
      refine ⟨fun h => ?_, fun h => ?_⟩
      · have := i1 (by omega)
        omega
      · have := i2 (by omega)
        omega
theorem splitL_fit {p : Prg} (hr : rightP p = true) (o : List Int) : sbsFit (splitL p o) = true := by
  have h1 := cutL_pos hr
  have h2 := right_len hr
  unfold sbsFit
  simp only [Bool.and_eq_true, decide_eq_true_eq, List.all_eq_true]
  refine ⟨by rw [splitL_len]; omega, fun b hb => ?_⟩
  unfold splitL at hb
  obtain ⟨b0, hb0, rfl⟩ := List.mem_map.1 hb
  obtain ⟨k, hk, rfl⟩ := List.getElem_of_mem hb0
  obtain ⟨s1, s2⟩ := sbAt_cells (o := o) (List.getElem?_eq_getElem hk)
  obtain ⟨_, _, h3, h4⟩ := blk_bd (List.getElem?_eq_getElem hk)
  have l1 := iCells_len aCells_len p.code o (bdAt p k) (bdAt p (k + 1) - bdAt p k)
  have l2 := iCells_len eCells_len p.code o (bdAt p k) (bdAt p (k + 1) - bdAt p k)
  unfold sbFit
  simp only [Bool.and_eq_true, decide_eq_true_eq]
  rw [s1, s2]
  omega
/-- what SplitEach asks of each cell -/
theorem cell_ok {p : Prg} {o : List Int} {k : Nat} {b : Blk4} (h : (cutL p)[k]? = some b) {c : Cell} (hc : c ∈ (sbAt p o b).a ++ (sbAt p o b).e) : ∃ m : Nat, c.pc = (m : Int) ∧ bdAt p k ≤ m ∧ m < bdAt p (k + 1) ∧ c.off = ((m - bdAt p k : Nat) : Int) := by
  obtain ⟨s1, s2⟩ := sbAt_cells (o := o) h
  obtain ⟨_, _, h3, _⟩ := blk_bd h
  rw [s1, s2] at hc
  rcases List.mem_append.1 hc with hc | hc
  · obtain ⟨j, hj, h1, h2⟩ := iCells_mem (fun _ _ _ _ => aCells_pc) hc
    exact ⟨bdAt p k + j, h1, by omega, by omega, by rw [h2, Nat.add_sub_cancel_left]⟩
  · obtain ⟨j, hj, h1, h2⟩ := iCells_mem (fun _ _ _ _ => eCells_pc) hc
    exact ⟨bdAt p k + j, h1, by omega, by omega, by rw [h2, Nat.add_sub_cancel_left]⟩
theorem cell_up {p : Prg} {o : List Int} {k : Nat} {b : Blk4} (h : (cutL p)[k]? = some b) {j : Nat} (hj : 0 < j) (hne : j ≠ (sbAt p o b).a.length) {c d : Cell} (hc : ((sbAt p o b).a ++ (sbAt p o b).e)[j]? = some c) (hd : ((sbAt p o b).a ++ (sbAt p o b).e)[j - 1]? = some d) : d.pc ≤ c.pc := by
  obtain ⟨s1, s2⟩ := sbAt_cells (o := o) h
  have w1 := iCells_sorted (f := aCells) (fun _ _ _ _ => aCells_pc) p.code o (bdAt p k) (bdAt p (k + 1) - bdAt p k)
  have w2 := iCells_sorted (f := eCells) (fun _ _ _ _ => eCells_pc) p.code o (bdAt p k) (bdAt p (k + 1) - bdAt p k)
  rw [← s1] at w1
  rw [← s2] at w2
  generalize (sbAt p o b).a = A at *
  generalize (sbAt p o b).e = E at *
  have get : ∀ {l : List Cell}, l.Pairwise (fun x y => x.pc ≤ y.pc) → ∀ {i i' : Nat} {x y : Cell}, i < i' → l[i]? = some x → l[i']? = some y → x.pc ≤ y.pc := fun {l} hl {i i' x y} hii hx hy => by
    obtain ⟨h1, rfl⟩ := List.getElem?_eq_some_iff.1 hx
    obtain ⟨h2, rfl⟩ := List.getElem?_eq_some_iff.1 hy
    exact List.pairwise_iff_getElem.1 hl i i' h1 h2 hii
  rcases Nat.lt_or_ge j A.length with hlt | hge
  · rw [List.getElem?_append_left hlt] at hc
    rw [List.getElem?_append_left (by omega)] at hd
    exact get w1 (by omega) hd hc
  · rw [List.getElem?_append_right hge] at hc
    rw [List.getElem?_append_right (by omega)] at hd
    exact get w2 (by omega) hd hc
/-- the counts as the law keeps them -/
def hadL (N : Nat) (cs : List Cell) : List V := (List.range N).map fun m => iv (cnt m cs : Nat)
theorem hadL_nil (N : Nat) : hadL N [] = List.replicate N (.s (.int .i64 0)) := by
  rw [List.eq_replicate_iff]
  refine ⟨by simp [hadL], fun b hb => ?_⟩
  obtain ⟨m, _, rfl⟩ := List.mem_map.1 hb
  rfl
theorem hadL_len (N : Nat) (cs : List Cell) : (hadL N cs).length = N := by simp [hadL]
theorem hadL_at {N m : Nat} (h : m < N) (cs : List Cell) : (hadL N cs)[m]? = some (.s (.int .i64 (cnt m cs : Nat))) := by
  unfold hadL
  rw [List.getElem?_map, List.getElem?_range h]; rfl
theorem hadL_set {N m : Nat} (h : m < N) (cs : List Cell) {c : Cell} (hc : c.pc = (m : Int)) : (hadL N cs).set m (.s (.int .i64 (cnt m cs + 1 : Nat))) = hadL N (cs ++ [c]) := by
  refine List.ext_getElem? fun i => ?_
  rw [List.getElem?_set]
  have hcc : ∀ i : Nat, cnt i [c] = if i = m then 1 else 0 := fun i => by
    unfold cnt
    rw [List.countP_cons, List.countP_nil, hc]
    by_cases h : i = m
    · subst h; simp
    · have : ((m : Int) == (i : Int)) = false := by simp; omega
      rw [this, if_neg h]; rfl
  by_cases hi : m = i
  · subst hi
    rw [if_pos rfl, if_pos (by rw [hadL_len]; exact h), hadL_at h, cnt_append, hcc, if_pos rfl]
  · rw [if_neg hi]
    by_cases hiN : i < N
    · rw [hadL_at hiN, hadL_at hiN, cnt_append, hcc, if_neg (fun e => hi e.symm), Nat.add_zero]
    · rw [List.getElem?_eq_none (by rw [hadL_len]; omega), List.getElem?_eq_none (by rw [hadL_len]; omega)]
theorem cnt_pre (m : Nat) (a b : List Cell) : cnt m a ≤ cnt m (a ++ b) := by rw [cnt_append]; omega

end Go.Proofs.YtalcmfmhifcaeaaGreat
