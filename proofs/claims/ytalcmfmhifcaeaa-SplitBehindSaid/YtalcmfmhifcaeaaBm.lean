/-
BlocksMore: the plain law. No program in sight.
-/
import Derived.Test.YtalcmfmhifcaeaaBj
namespace Go.Proofs.Ytalcmfmhifcaeaa
set_option linter.unusedSimpArgs false
set_option linter.unusedVariables false

def bothP (p q : Prg) : Prg := ⟨p.code ++ q.code, p.size, p.data⟩
theorem both_len (p q : Prg) : (bothP p q).code.length = p.code.length + q.code.length := List.length_append
theorem both_lt {p : Prg} (q : Prg) {n : Nat} (h : n < p.code.length) : (bothP p q).code[n]? = p.code[n]? := List.getElem?_append_left h
theorem both_ge (p q : Prg) (n : Nat) : (bothP p q).code[p.code.length + n]? = q.code[n]? := by
  show (p.code ++ q.code)[p.code.length + n]? = _
  rw [List.getElem?_append_right (by omega)]
  congr 1; omega
theorem badI_right {l k : Nat} {i : Ins} (h : brB i = true → 0 ≤ (k : Int) + i.imm ∧ (k : Int) + i.imm < l) : badI l k i = false := by
  unfold badI
  cases hb : brB i
  · unfold brB at hb; rw [hb]; rfl
  · have := h hb
    have e1 : decide ((k : Int) + i.imm < 0) = false := by simp; omega
    have e2 : decide ((l : Int) ≤ (k : Int) + i.imm) = false := by simp; omega
    rw [e1, e2]; simp
theorem both_right {p q : Prg} (hp : rightP p = true) (hq : rightP q = true) (h1 : p.code.length ≤ 60) (h2 : q.code.length ≤ 60) : rightP (bothP p q) = true := by
  have hpa := fun {k : Nat} {i : Ins} (h : p.code[k]? = some i) => right_at hp h
  have hqa := fun {k : Nat} {i : Ins} (h : q.code[k]? = some i) => right_at hq h
  have hp1 := right_len hp
  simp only [rightP, headB, Bool.and_eq_true, decide_eq_true_eq, Bool.not_eq_true'] at hp hq ⊢
  obtain ⟨⟨⟨⟨⟨⟨p1, p2⟩, p3⟩, p4⟩, p5⟩, p6⟩, p7⟩ := hp
  obtain ⟨⟨_, q6⟩, _⟩ := hq
  refine ⟨⟨⟨⟨⟨⟨?_, ?_⟩, p3⟩, p4⟩, p5⟩, ?_⟩, ?_⟩
  · rw [both_len]; omega
  · rw [both_len]; omega
  · show (p.code ++ q.code).all rightB = true
    rw [List.all_append, p6, q6]; rfl
  · unfold targsB
    rw [List.any_eq_false]
    intro k hk
    have hk' : k < p.code.length + q.code.length := by rw [← both_len]; simpa using hk
    unfold badAt
    rw [both_len]
    rcases Nat.lt_or_ge k p.code.length with hlt | hge
    · rw [both_lt q hlt]
      cases hc : p.code[k]? with
      | none => simp
      | some x =>
        simp only
        rw [badI_right fun hb => by have := (hpa hc).2 hb; omega]; simp
    · obtain ⟨m, rfl⟩ : ∃ m, k = p.code.length + m := ⟨k - p.code.length, by omega⟩
      rw [both_ge]
      cases hc : q.code[m]? with
      | none => simp
      | some x =>
        simp only
        rw [badI_right fun hb => by have := (hqa hc).2 hb; omega]; simp
theorem both_tgt1 {p : Prg} (q : Prg) {n : Nat} (h : n < p.code.length) : tgt (bothP p q) n = tgt p n := by
  unfold tgt; rw [both_lt q h]
theorem both_tgt2 (p : Prg) {q : Prg} (hq : rightP q = true) (n : Nat) : tgt (bothP p q) (p.code.length + n) = (tgt q n).map (p.code.length + ·) := by
  unfold tgt; rw [both_ge]
  cases hc : q.code[n]? with
  | none => rfl
  | some x =>
    simp only [Option.bind_some]
    cases hb : brB x
    · simp
    · have := (right_at hq hc).2 hb
      simp only [if_true, Option.map_some, Option.some.injEq]
      omega
theorem both_end1 {p : Prg} (q : Prg) {n : Nat} (h : n < p.code.length) : endAt (bothP p q) n = endAt p n := by
  unfold endAt; rw [both_lt q h]
theorem both_end2 (p q : Prg) (n : Nat) : endAt (bothP p q) (p.code.length + n) = endAt q n := by
  unfold endAt; rw [both_ge]
theorem tgt_bd {p : Prg} (h : rightP p = true) {n t : Nat} (ht : tgt p n = some t) : t < p.code.length ∧ n < p.code.length := by
  unfold tgt at ht
  cases hc : p.code[n]? with
  | none => rw [hc] at ht; simp at ht
  | some x =>
    rw [hc] at ht
    simp only [Option.bind_some] at ht
    have hn : n < p.code.length := (List.getElem?_eq_some_iff.1 hc).1
    split at ht
    · rename_i hb
      have := (right_at h hc).2 hb
      cases ht
      omega
    · cases ht
theorem isLead_iff (p : Prg) (j : Nat) : isLead p j = true ↔ j = 0 ∨ (∃ n, n < p.code.length ∧ tgt p n = some j) ∨ (0 < j ∧ j ≤ p.code.length ∧ endAt p (j - 1) = true) := by
  unfold isLead flagAt
  simp only [Bool.or_eq_true, Bool.and_eq_true, beq_iff_eq, decide_eq_true_eq, List.any_eq_true, List.mem_range, or_assoc, and_assoc]
theorem both_lead1 {p q : Prg} (hp : rightP p = true) (hq : rightP q = true) {j : Nat} (h : j < p.code.length) : isLead (bothP p q) j = isLead p j := by
  rw [Bool.eq_iff_iff, isLead_iff, isLead_iff, both_len]
  constructor
  · rintro (h0 | ⟨n, hn, ht⟩ | ⟨h1, h2, h3⟩)
    · exact .inl h0
    · rcases Nat.lt_or_ge n p.code.length with hlt | hge
      · rw [both_tgt1 q hlt] at ht
        exact .inr (.inl ⟨n, hlt, ht⟩)
      · obtain ⟨m, rfl⟩ : ∃ m, n = p.code.length + m := ⟨n - p.code.length, by omega⟩
        rw [both_tgt2 p hq] at ht
        obtain ⟨t, _, rfl⟩ := Option.map_eq_some_iff.1 ht
        omega
    · rw [both_end1 q (by omega)] at h3
      exact .inr (.inr ⟨h1, by omega, h3⟩)
  · rintro (h0 | ⟨n, hn, ht⟩ | ⟨h1, h2, h3⟩)
    · exact .inl h0
    · exact .inr (.inl ⟨n, by omega, by rw [both_tgt1 q hn]; exact ht⟩)
    · exact .inr (.inr ⟨h1, by omega, by rw [both_end1 q (by omega)]; exact h3⟩)
theorem both_lead2 {p q : Prg} (hp : rightP p = true) (hq : rightP q = true) (hh : endAt p (p.code.length - 1) = true) {i : Nat} (h : i < q.code.length) : isLead (bothP p q) (p.code.length + i) = isLead q i := by
  have hl := right_len hp
  rw [Bool.eq_iff_iff, isLead_iff, isLead_iff, both_len]
  constructor
  · rintro (h0 | ⟨n, hn, ht⟩ | ⟨h1, h2, h3⟩)
    · omega
    · rcases Nat.lt_or_ge n p.code.length with hlt | hge
      · rw [both_tgt1 q hlt] at ht
        have := tgt_bd hp ht
        omega
      · obtain ⟨m, rfl⟩ : ∃ m, n = p.code.length + m := ⟨n - p.code.length, by omega⟩
        rw [both_tgt2 p hq] at ht
        obtain ⟨t, ht2, e⟩ := Option.map_eq_some_iff.1 ht
        have : t = i := by omega
        subst this
        exact .inr (.inl ⟨m, by omega, ht2⟩)
    · rcases Nat.eq_zero_or_pos i with rfl | hi
      · exact .inl rfl
      · rw [show p.code.length + i - 1 = p.code.length + (i - 1) by omega, both_end2] at h3
        exact .inr (.inr ⟨hi, by omega, h3⟩)
  · rintro (rfl | ⟨n, hn, ht⟩ | ⟨h1, h2, h3⟩)
    · exact .inr (.inr ⟨by omega, by omega, by rw [both_end1 q (by omega)]; exact hh⟩)
    · exact .inr (.inl ⟨p.code.length + n, by omega, by rw [both_tgt2 p hq, ht]; rfl⟩)
    · exact .inr (.inr ⟨by omega, by omega, by rw [show p.code.length + i - 1 = p.code.length + (i - 1) by omega, both_end2]; exact h3⟩)
theorem both_leadL {p q : Prg} (hp : rightP p = true) (hq : rightP q = true) (hh : endAt p (p.code.length - 1) = true) : leadL (bothP p q) = leadL p ++ (leadL q).map (fun x : Int => (p.code.length : Int) + x) := by
  unfold leadL
  rw [both_len, List.range_add, List.filter_append, List.map_append]
  congr 1
  · congr 1
    apply List.filter_congr
    intro x hx
    exact both_lead1 hp hq (by simpa using hx)
  · rw [List.filter_map, List.map_map, List.map_map]
    have : (List.range q.code.length).filter (isLead (bothP p q) ∘ fun x => p.code.length + x) = (List.range q.code.length).filter (isLead q) := by
      apply List.filter_congr
      intro x hx
      exact both_lead2 hp hq hh (by simpa using hx)
    rw [this]
    apply List.map_congr_left
    intro x _
    simp
def shB (P L : Nat) (y : Blk4) : Blk4 := ⟨y.from_ + P, y.to_ + P, if y.next < 0 then -1 else y.next + L, if y.taken < 0 then -1 else y.taken + L⟩
theorem more_get1 {p q : Prg} (hp : rightP p = true) (hq : rightP q = true) (hh : endAt p (p.code.length - 1) = true) {i : Nat} (h : i < (leadL p).length) : (leadL (bothP p q))[i]? = (leadL p)[i]? := by
  rw [both_leadL hp hq hh, List.getElem?_append_left h]
theorem more_get2 {p q : Prg} (hp : rightP p = true) (hq : rightP q = true) (hh : endAt p (p.code.length - 1) = true) (i : Nat) : (leadL (bothP p q))[(leadL p).length + i]? = ((leadL q)[i]?).map fun x => (p.code.length : Int) + x := by
  rw [both_leadL hp hq hh, List.getElem?_append_right (by omega), List.getElem?_map]
  congr 2; omega
theorem more_len {p q : Prg} (hp : rightP p = true) (hq : rightP q = true) (hh : endAt p (p.code.length - 1) = true) : (leadL (bothP p q)).length = (leadL p).length + (leadL q).length := by
  rw [both_leadL hp hq hh, List.length_append, List.length_map]
theorem more1 {p q : Prg} (hp : rightP p = true) (hq : rightP q = true) (hx : ∃ x, p.code[p.code.length - 1]? = some x ∧ form x.op = 8) {i : Nat} (hi : i < (leadL p).length) : blkAt (bothP p q) (leadL (bothP p q)) i = blkAt p (leadL p) i := by
  obtain ⟨xh, hxh, h8⟩ := hx
  have hh : endAt p (p.code.length - 1) = true := by unfold endAt; rw [hxh]; simp [endB, h8]
  have hpl := right_len hp
  obtain ⟨a, ha⟩ : ∃ a, (leadL p)[i]? = some a := ⟨(leadL p)[i], List.getElem?_eq_getElem hi⟩
  have haB : (leadL (bothP p q))[i]? = some a := by rw [more_get1 hp hq hh hi]; exact ha
  have hml := more_len hp hq hh
  have hq0 := lead_zero hq
  have hqn : 0 < (leadL q).length := by
    cases e : leadL q with
    | nil => rw [e] at hq0; simp at hq0
    | cons => simp
  have hbd := toAt_bd ha
  have hlb := lead_bd (List.mem_of_getElem? ha)
  have hto : toAt (bothP p q) (leadL (bothP p q)) i = toAt p (leadL p) i := by
    unfold toAt
    rw [if_pos (show i + 1 < (leadL (bothP p q)).length by omega)]
    split
    · rename_i h
      rw [List.getD_eq_getElem?_getD, List.getD_eq_getElem?_getD, more_get1 hp hq hh h]
    · rename_i h
      have e : i + 1 = (leadL p).length + 0 := by omega
      rw [List.getD_eq_getElem?_getD, e, more_get2 hp hq hh, hq0]
      simp
  obtain ⟨T, hT⟩ : ∃ T, toAt p (leadL p) i = T := ⟨_, rfl⟩
  rw [hT] at hbd hto
  obtain ⟨E, rfl⟩ : ∃ E : Nat, T = ((E + 1 : Nat) : Int) := ⟨(T - 1).toNat, by omega⟩
  obtain ⟨x, qx⟩ : ∃ x, p.code[E]? = some x := ⟨p.code[E]'(by omega), List.getElem?_eq_getElem (by omega)⟩
  have qxB : (bothP p q).code[E]? = some x := by rw [both_lt q (by omega)]; exact qx
  rw [blkAt_eq ha hT rfl qx, blkAt_eq haB hto rfl qxB]
  have en : (if i + 1 < (leadL (bothP p q)).length ∧ form x.op ≠ 7 ∧ form x.op ≠ 8 then ((i + 1 : Nat) : Int) else -1) = if i + 1 < (leadL p).length ∧ form x.op ≠ 7 ∧ form x.op ≠ 8 then ((i + 1 : Nat) : Int) else -1 := by
    by_cases h : i + 1 < (leadL p).length
    · have h' : i + 1 < (leadL (bothP p q)).length := by omega
      simp only [h, h']
    · have : toAt p (leadL p) i = p.code.length := by unfold toAt; rw [if_neg h]
      have hE : E = p.code.length - 1 := by omega
      rw [hE, hxh] at qx
      cases qx
      simp [h8]
  have et : (if brB x = true then idxL (((E : Int) + x.imm).toNat : Int) (leadL (bothP p q)) 0 else -1) = if brB x = true then idxL (((E : Int) + x.imm).toNat : Int) (leadL p) 0 else -1 := by
    cases hb : brB x
    · rfl
    · rw [if_pos rfl, if_pos rfl]
      have hr := (right_at hp qx).2 hb
      have hm := lead_tgt hp qx hb (t := ((E : Int) + x.imm).toNat) (by omega)
      obtain ⟨j, hj, hv⟩ := List.getElem_of_mem hm
      have hg : (leadL p)[j]? = some (((E : Int) + x.imm).toNat : Int) := by rw [List.getElem?_eq_getElem hj, hv]
      rw [idx_inc (leadL_inc p) hg, idx_inc (leadL_inc (bothP p q)) (i := j) (by rw [more_get1 hp hq hh hj]; exact hg)]
  rw [en, et]
theorem more2 {p q : Prg} (hp : rightP p = true) (hq : rightP q = true) (hh : endAt p (p.code.length - 1) = true) {m : Nat} (hm : m < (leadL q).length) : blkAt (bothP p q) (leadL (bothP p q)) ((leadL p).length + m) = shB p.code.length (leadL p).length (blkAt q (leadL q) m) := by
  have hml := more_len hp hq hh
  obtain ⟨a, ha⟩ : ∃ a, (leadL q)[m]? = some a := ⟨(leadL q)[m], List.getElem?_eq_getElem hm⟩
  have haB : (leadL (bothP p q))[(leadL p).length + m]? = some ((p.code.length : Int) + a) := by rw [more_get2 hp hq hh, ha]; rfl
  have hbd := toAt_bd ha
  have hlb := lead_bd (List.mem_of_getElem? ha)
  have hto : toAt (bothP p q) (leadL (bothP p q)) ((leadL p).length + m) = (p.code.length : Int) + toAt q (leadL q) m := by
    unfold toAt
    by_cases h : m + 1 < (leadL q).length
    · rw [if_pos h, if_pos (by omega), List.getD_eq_getElem?_getD, List.getD_eq_getElem?_getD, show (leadL p).length + m + 1 = (leadL p).length + (m + 1) by omega, more_get2 hp hq hh, List.getElem?_eq_getElem h]
      rfl
    · rw [if_neg h, if_neg (by omega), both_len]; omega
  obtain ⟨T, hT⟩ : ∃ T, toAt q (leadL q) m = T := ⟨_, rfl⟩
  rw [hT] at hbd hto
  obtain ⟨E, rfl⟩ : ∃ E : Nat, T = ((E + 1 : Nat) : Int) := ⟨(T - 1).toNat, by omega⟩
  obtain ⟨x, qx⟩ : ∃ x, q.code[E]? = some x := ⟨q.code[E]'(by omega), List.getElem?_eq_getElem (by omega)⟩
  have qxB : (bothP p q).code[p.code.length + E]? = some x := by rw [both_ge]; exact qx
  rw [blkAt_eq ha hT rfl qx, blkAt_eq haB (E := p.code.length + E) hto (by omega) qxB]
  unfold shB
  rw [blk4_ext]
  refine ⟨by simp only; omega, by simp only; omega, ?_, ?_⟩
  · simp only
    by_cases h : m + 1 < (leadL q).length ∧ form x.op ≠ 7 ∧ form x.op ≠ 8
    · rw [if_pos h, if_pos ⟨by omega, h.2⟩, if_neg (by omega)]; omega
    · rw [if_neg h, if_neg (fun h' => h ⟨by omega, h'.2⟩), if_pos (by omega)]
  · simp only
    cases hb : brB x
    · simp
    · have hr := (right_at hq qx).2 hb
      have hmm := lead_tgt hq qx hb (t := ((E : Int) + x.imm).toNat) (by omega)
      obtain ⟨j, hj, hv⟩ := List.getElem_of_mem hmm
      have hg : (leadL q)[j]? = some (((E : Int) + x.imm).toNat : Int) := by rw [List.getElem?_eq_getElem hj, hv]
      have hgB : (leadL (bothP p q))[(leadL p).length + j]? = some ((((p.code.length + E : Nat) : Int) + x.imm).toNat : Int) := by
        rw [more_get2 hp hq hh, hg]
        simp only [Option.map_some, Option.some.injEq]
        omega
      rw [if_pos rfl, if_pos rfl, idx_inc (leadL_inc q) hg, idx_inc (leadL_inc (bothP p q)) hgB, if_neg (by omega)]
      omega

end Go.Proofs.Ytalcmfmhifcaeaa
