/-
The plain law of owners: the least one may be, and is the least. No condition.
-/
import Derived.Test.YtkfmecmmbnehjaaGreatOc
namespace Go.Proofs.YtkfmecmmbnehjaaGreat
set_option linter.unusedSimpArgs false
set_option linter.unusedVariables false

theorem Dn.anti {a b : List Int} (h : Dn a b) (k : Dn b a) : a = b := oAt_ext h.len fun j => by
  rcases h.at_ j with e | ⟨e1, e2⟩
  · exact e
  · rcases k.at_ j with e | ⟨e3, e4⟩
    · exact e.symm
    · rw [e4] at e1; omega
theorem pass_fix {c : List Ins} (hc : c.all rightB = true) {o : List Int} (h : OkO o) (hf : passO c o = o) : ∀ i ∈ c, giveO i o = o := by
  induction c with
  | nil => intro i hi; cases hi
  | cons i c ih =>
    simp only [List.all_cons, Bool.and_eq_true] at hc
    obtain ⟨h1, h2⟩ := give_ok hc.1 h
    have h3 := (pass_ok hc.2 h1).2
    have e : passO c (giveO i o) = o := hf
    rw [e] at h3
    have hg : giveO i o = o := h2.anti h3
    rw [hg] at e
    intro j hj
    rcases List.mem_cons.1 hj with rfl | hj
    · exact hg
    · exact ih hc.2 e j hj
theorem fold_at {l : List Int} (hl : ∀ r ∈ l, 1 ≤ r ∧ r < 16) {o : List Int} (h : OkO o) {r : Int} (hr : r ∈ l) : oAt (l.foldl (fun o r => o.set r.toNat 1) o) r = 1 := by
  induction l generalizing o with
  | nil => cases hr
  | cons q l ih =>
    have hq := hl q (by simp)
    obtain ⟨h1, _⟩ := h.set1 (k := q.toNat) (by omega) (by omega)
    have hl' : ∀ r ∈ l, 1 ≤ r ∧ r < 16 := fun x hx => hl x (by simp [hx])
    rcases List.mem_cons.1 hr with rfl | hr
    · have h3 := (fold_ok l hl' h1).2
      have e : ((r.toNat : Nat) : Int) = r := by omega
      have h4 := h3.at_ r.toNat
      rw [e] at h4
      have h5 := oAt_set (o := o) (k := r.toNat) (by have := h.len; omega) 1 r.toNat
      rw [e, if_pos rfl] at h5
      rcases h4 with h4 | ⟨h4, _⟩
      · rw [List.foldl_cons, h4, h5]
      · rw [h5] at h4; omega
    · exact ih hl' h1 hr
theorem fix_wants {i : Ins} (hi : rightB i = true) {o : List Int} (h : OkO o) (hg : giveO i o = o) : wantsB i o = false := by
  have hf := right_fit hi
  have h0 := hf.a0
  have h1 := hf.a1
  have hl := h.len
  unfold giveO at hg
  unfold wantsB
  cases hre : reachB i
  · rw [hre] at hg
    simp only [Bool.false_eq_true, if_false] at hg
    rw [Bool.false_and, Bool.false_or]
    cases hc : (reckB i && oAt o i.d == 1)
    · rfl
    · rw [hc] at hg
      simp only [if_true] at hg
      rw [Bool.true_and]
      unfold onEB
      rw [List.any_eq_false]
      intro r hr
      have := fold_at (fun r hr => reads_bd hr) h hr
      rw [hg] at this
      simp [this]
  · have hck : reckB i = false := by
      simp only [reachB, reckB, Bool.or_eq_true, beq_iff_eq, Bool.and_eq_false_iff, decide_eq_false_iff_not] at hre ⊢
      omega
    rw [hck, Bool.false_and, Bool.false_and, Bool.or_false, Bool.true_and]
    rw [hre] at hg
    simp only [if_true] at hg
    by_cases ha : i.a = 0
    · rw [ha]
      have := h.zero
      simp [this]
    · have e : (i.a == 0) = false := by simp [ha]
      rw [e] at hg
      simp only [Bool.false_eq_true, if_false] at hg
      have := oAt_set (o := o) (k := i.a.toNat) (by omega) 1 i.a.toNat
      rw [if_pos rfl, hg, show ((i.a.toNat : Nat) : Int) = i.a by omega] at this
      simp [this]
theorem closedB_iff {p : Prg} {o : List Int} (hl : o.length = 16) : closedB p o = true ↔ rightP p = true ∧ OkO o ∧ ∀ i ∈ p.code, wantsB i o = false := by
  simp only [closedB, Bool.and_eq_true, beq_iff_eq]
  constructor
  · rintro ⟨⟨⟨h1, h2⟩, h3⟩, h4⟩
    refine ⟨h1, ⟨hl, h2, fun j hj hj2 => ?_⟩, fun i hi => ?_⟩
    · have := (all_drop hl _).1 h3 j hj hj2
      simpa using this
    · have := List.all_eq_true.1 h4 i hi
      simpa using this
  · rintro ⟨h1, h2, h3⟩
    refine ⟨⟨⟨h1, h2.zero⟩, (all_drop hl _).2 fun j hj hj2 => ?_⟩, ?_⟩
    · simpa using h2.side j hj hj2
    · rw [List.all_eq_true]; intro i hi; simp [h3 i hi]
/-- what is told may be -/
theorem of_closed {p : Prg} (h : rightP p = true) : closedB p (ofO p) = true := by
  obtain ⟨hall, _⟩ := rightP_all h
  have hk := iter_ok hall 17
  have hf := iter17_fix hall
  have e : ofO p = iterO p.code 17 := by unfold ofO; rw [if_pos h]
  rw [closedB_iff (of_len p), e]
  exact ⟨h, hk, fun i hi => fix_wants (List.all_eq_true.1 hall i hi) hk (pass_fix hall hk hf i hi)⟩
end Go.Proofs.YtkfmecmmbnehjaaGreat
