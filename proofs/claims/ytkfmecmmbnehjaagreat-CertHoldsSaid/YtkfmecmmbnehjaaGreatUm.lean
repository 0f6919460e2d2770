/-
CertHolds by the plain reckoning. No condition.
-/
import Derived.Test.YtkfmecmmbnehjaaGreatUh
/-
Each block of a split is balanced: the plain law. No condition.
-/
namespace Go.Proofs.YtkfmecmmbnehjaaGreat
set_option linter.unusedSimpArgs false
set_option linter.unusedVariables false

theorem ofK_app (k : Int) (a b : List Cell) : ofK k (a ++ b) = ofK k a ++ ofK k b := List.filter_append ..
theorem ofK_mapR (k j : Int) (l : List Int) (pc off : Int) : ofK k (l.map fun r => cR j r pc off) = if j = k then l.map fun r => cR j r pc off else [] := by
  unfold ofK
  split
  · rename_i h
    rw [List.filter_eq_self]
    intro c hc
    obtain ⟨r, _, rfl⟩ := List.mem_map.1 hc
    simp [cR, h]
  · rename_i h
    rw [List.filter_eq_nil_iff]
    intro c hc
    obtain ⟨r, _, rfl⟩ := List.mem_map.1 hc
    simp [cR, h]
theorem ofK_I (k j : Int) (i : Ins) (pc off : Int) : ofK k [cI j i pc off] = if j = k then [cI j i pc off] else [] := by
  unfold ofK
  by_cases h : j = k <;> simp [cI, h]
theorem ofK_R (k j r pc off : Int) : ofK k [cR j r pc off] = if j = k then [cR j r pc off] else [] := by
  unfold ofK
  by_cases h : j = k <;> simp [cR, h]
theorem ofK_B (k j pc off : Int) : ofK k [cB j pc off] = if j = k then [cB j pc off] else [] := by
  unfold ofK
  by_cases h : j = k <;> simp [cB, h]
theorem ofK_2 (k : Int) (c d : Cell) : ofK k [c, d] = ofK k [c] ++ ofK k [d] := ofK_app k [c] [d]
theorem ofK_nil (k : Int) : ofK k [] = [] := rfl
theorem cI_ins (k : Int) (i : Ins) (pc off : Int) : (cI k i pc off).ins = i := rfl
theorem cR_reg (k r pc off : Int) : (cR k r pc off).reg = r := rfl
theorem allP_sent (l : List Int) (pc off : Int) : allP sameReg (l.map fun r => cR 5 r pc off) (l.map fun r => cR 6 r pc off) = true := by
  induction l with
  | nil => rfl
  | cons r l ih => rw [List.map_cons, List.map_cons, allP, ih]; simp [sameReg, cR]
theorem allP_app {P : Cell → Cell → Bool} : ∀ {a c : List Cell} (b d : List Cell), allP P a c = true → allP P b d = true → allP P (a ++ b) (c ++ d) = true
  | [], [], b, d, _, h => h
  | [], _ :: _, b, d, h, _ => by cases h
  | _ :: _, [], b, d, h, _ => by cases h
  | x :: a, y :: c, b, d, h, k => by
    rw [allP, Bool.and_eq_true] at h
    rw [List.cons_append, List.cons_append, allP, h.1, allP_app b d h.2 k]; rfl
/-- one instruction's cells fit -/
theorem fitI {i : Ins} (h : rightB i = true) (o : List Int) (pc off : Int) : allP sameReg (ofK 5 (aCells i o pc off)) (ofK 6 (eCells i o pc off)) = true ∧ allP sameIns (ofK 3 (aCells i o pc off)) (ofK 7 (eCells i o pc off)) = true ∧ (ofK 4 (aCells i o pc off)).length = (ofK 8 (eCells i o pc off)).length := by
  have hs := allP_sent (sentL i o) pc off
  unfold aCells eCells
  rw [if_pos h, if_pos h]
  (repeat' split) <;> simp [ofK_app, ofK_mapR, ofK_I, ofK_R, ofK_B, ofK_2, ofK_nil, allP, sameReg, sameIns, hs, cR_reg, cI_ins]
theorem allP_some {P : Cell → Cell → Bool} {a b : List Cell} (h : allP P a b = true) : a.length = b.length := by
  refine Classical.byContradiction fun hne => ?_
  rw [allP_len hne] at h
  cases h
/-- what stands ahead of the control cell, and it -/
structure Tl (m : List Int) (l pre tail : List Cell) : Prop where
  eq : l = pre ++ tail
  no : ∀ c ∈ pre, ctlB c.kind = false ∧ 0 ≤ idxL c.kind m 0
theorem idx5 {k : Int} (h : 1 ≤ k ∧ k ≤ 5) : ctlB k = false ∧ 0 ≤ idxL k [1, 2, 3, 4, 5] 0 := by
  rcases (show k = 1 ∨ k = 2 ∨ k = 3 ∨ k = 4 ∨ k = 5 by omega) with rfl | rfl | rfl | rfl | rfl <;> decide
theorem idx4 {k : Int} (h : k = 1 ∨ k = 6 ∨ k = 7 ∨ k = 8) : ctlB k = false ∧ 0 ≤ idxL k [1, 6, 7, 8] 0 := by
  rcases h with rfl | rfl | rfl | rfl <;> decide
def tailA (i : Ins) (o : List Int) (pc off : Int) : List Cell :=
  if form i.op = 6 then (if onEB i o = true then [cB 10 pc off] else [cI 9 i pc off]) else if form i.op = 7 then [cB 11 pc off] else if form i.op = 8 then [cB 12 pc off] else []
def tailE (i : Ins) (o : List Int) (pc off : Int) : List Cell :=
  if form i.op = 6 then (if onEB i o = true then [cI 9 i pc off] else [cB 10 pc off]) else if form i.op = 7 then [cB 11 pc off] else if form i.op = 8 then [cB 12 pc off] else []
theorem tlA {i : Ins} (h : rightB i = true) (o : List Int) (pc off : Int) : ∃ pre, Tl [1, 2, 3, 4, 5] (aCells i o pc off) pre (tailA i o pc off) := by
  have mk : ∀ (pre tail : List Cell), (∀ c ∈ pre, 1 ≤ c.kind ∧ c.kind ≤ 5) → ∃ pre', Tl [1, 2, 3, 4, 5] (pre ++ tail) pre' tail := fun pre tail hp => ⟨pre, rfl, fun c hc => idx5 (hp c hc)⟩
  have sent : ∀ c ∈ (sentL i o).map (fun r => cR 5 r pc off), 1 ≤ c.kind ∧ c.kind ≤ 5 := fun c hc => by
    obtain ⟨r, _, rfl⟩ := List.mem_map.1 hc
    simp [cR]
  have hf := form_cases h
  unfold aCells tailA
  rw [if_pos h]
  rcases hf with hf | hf | hf | hf | hf | hf | hf | hf <;> simp only [hf] <;> simp
  all_goals (repeat' split)
  all_goals first
    | (have := mk [cI 1 i pc off] [] (by simp [cI]); simpa using this)
    | (have := mk [cI 2 i pc off] [] (by simp [cI]); simpa using this)
    | (have := mk [cI 3 i pc off] [] (by simp [cI]); simpa using this)
    | (have := mk [cI 4 i pc off] [] (by simp [cI]); simpa using this)
    | (have := mk [cR 5 i.b pc off, cI 4 i pc off] [] (by simp [cI, cR]); simpa using this)
    | (have := mk _ [] sent; simpa using this)
    | (have := mk _ [cB 10 pc off] sent; simpa using this)
    | (have := mk [] [cI 9 i pc off] (by simp); simpa using this)
    | (have := mk [] [cB 11 pc off] (by simp); simpa using this)
    | (have := mk [] [cB 12 pc off] (by simp); simpa using this)
theorem tlE {i : Ins} (h : rightB i = true) (o : List Int) (pc off : Int) : ∃ pre, Tl [1, 6, 7, 8] (eCells i o pc off) pre (tailE i o pc off) := by
  have mk : ∀ (pre tail : List Cell), (∀ c ∈ pre, c.kind = 1 ∨ c.kind = 6 ∨ c.kind = 7 ∨ c.kind = 8) → ∃ pre', Tl [1, 6, 7, 8] (pre ++ tail) pre' tail := fun pre tail hp => ⟨pre, rfl, fun c hc => idx4 (hp c hc)⟩
  have sent : ∀ c ∈ (sentL i o).map (fun r => cR 6 r pc off), c.kind = 1 ∨ c.kind = 6 ∨ c.kind = 7 ∨ c.kind = 8 := fun c hc => by
    obtain ⟨r, _, rfl⟩ := List.mem_map.1 hc
    simp [cR]
  have sent1 : ∀ c ∈ (sentL i o).map (fun r => cR 6 r pc off) ++ [cI 1 i pc off], c.kind = 1 ∨ c.kind = 6 ∨ c.kind = 7 ∨ c.kind = 8 := fun c hc => by
    rcases List.mem_append.1 hc with hc | hc
    · exact sent c hc
    · simp at hc; subst hc; simp [cI]
  have hf := form_cases h
  unfold eCells tailE
  rw [if_pos h]
  rcases hf with hf | hf | hf | hf | hf | hf | hf | hf <;> simp only [hf] <;> simp
  all_goals (repeat' split)
  all_goals first
    | (have := mk [] [] (by simp); simpa using this)
    | (have := mk [cI 7 i pc off] [] (by simp [cI]); simpa using this)
    | (have := mk [cR 8 i.b pc off] [] (by simp [cR]); simpa using this)
    | (have := mk [cR 6 i.b pc off, cR 8 i.b pc off] [] (by simp [cR]); simpa using this)
    | (have := mk _ [] sent1; simpa using this)
    | (have := mk _ [cI 9 i pc off] sent; simpa using this)
    | (have := mk [] [cB 10 pc off] (by simp); simpa using this)
    | (have := mk [] [cB 11 pc off] (by simp); simpa using this)
    | (have := mk [] [cB 12 pc off] (by simp); simpa using this)
theorem kinds_tl {m : List Int} {l pre tail : List Cell} (h : Tl m l pre tail) (ht : tail = [] ∨ ∃ c, tail = [c] ∧ ctlB c.kind = true) : kindsB l m = true := by
  refine kindsB_yes fun i hi c hc => ?_
  rw [h.eq] at hi hc ⊢
  unfold kOk
  rcases Nat.lt_or_ge i pre.length with hlt | hge
  · rw [List.getElem?_append_left hlt] at hc
    obtain ⟨h1, h2⟩ := h.no c (List.mem_of_getElem? hc)
    rw [h1, if_neg (by simp)]
    simpa using h2
  · rw [List.getElem?_append_right hge] at hc
    rcases ht with rfl | ⟨d, rfl, hd⟩
    · simp at hc
    · have hi0 : i - pre.length = 0 := by
        simp only [List.length_append, List.length_singleton] at hi
        omega
      rw [hi0] at hc
      simp at hc
      subst hc
      rw [hd, if_pos rfl]
      simp only [List.length_append, List.length_singleton, Bool.not_eq_true', decide_eq_false_iff_not]
      omega
theorem last_tl {m : List Int} {l pre tail : List Cell} (h : Tl m l pre tail) : (tail = [] → lastK l = 0) ∧ ∀ c, tail = [c] → ctlB c.kind = true → lastK l = c.kind := by
  constructor
  · rintro rfl
    rw [h.eq, List.append_nil]
    unfold lastK
    cases hl : pre.getLast? with
    | none => rfl
    | some c =>
      have := (h.no c (List.mem_of_getLast? hl)).1
      simp only [this, Bool.false_eq_true, if_false]
  · rintro c rfl hc
    rw [h.eq]
    unfold lastK
    rw [List.getLast?_append]
    simp [hc]
/-- all but the last instruction have no control cell -/
theorem iTl {f : Ins → List Int → Int → Int → List Cell} {t : Ins → List Int → Int → Int → List Cell} {m : List Int} (hf : ∀ {i : Ins}, rightB i = true → ∀ (o : List Int) (pc off : Int), ∃ pre, Tl m (f i o pc off) pre (t i o pc off)) (h0 : ∀ (i : Ins) (o : List Int) (pc off : Int), form i.op < 6 → t i o pc off = []) {code : List Ins} {o : List Int} {F : Nat} : ∀ n : Nat, (∀ j, j < n → ∀ i, code[F + j]? = some i → rightB i = true ∧ form i.op < 6) → ∃ pre, Tl m (iCells f code o F n) pre []
  | 0, _ => ⟨[], rfl, fun c hc => by cases hc⟩
  | n + 1, h => by
    obtain ⟨pre, hp⟩ := iTl hf h0 n fun j hj => h j (by omega)
    cases hc : code[F + n]? with
    | none =>
      have e : iCells f code o F (n + 1) = iCells f code o F n := by
        unfold iCells
        rw [List.range_succ, List.flatMap_append]
        simp [hc]
      rw [e]
      exact ⟨pre, hp⟩
    | some i =>
      obtain ⟨hr, hlt⟩ := h n (by omega) i hc
      obtain ⟨q, hq⟩ := hf hr o ((F + n : Nat) : Int) (n : Int)
      have ht := h0 i o ((F + n : Nat) : Int) (n : Int) hlt
      rw [ht] at hq
      rw [iCells_succ f o hc]
      refine ⟨pre ++ q, by rw [hp.eq, hq.eq]; simp, fun c hc => ?_⟩
      rcases List.mem_append.1 hc with hc | hc
      · exact hp.no c hc
      · exact hq.no c hc
theorem iFit {code : List Ins} {o : List Int} {F : Nat} : ∀ n : Nat, (∀ j, j < n → ∀ i, code[F + j]? = some i → rightB i = true) → allP sameReg (ofK 5 (iCells aCells code o F n)) (ofK 6 (iCells eCells code o F n)) = true ∧ allP sameIns (ofK 3 (iCells aCells code o F n)) (ofK 7 (iCells eCells code o F n)) = true ∧ (ofK 4 (iCells aCells code o F n)).length = (ofK 8 (iCells eCells code o F n)).length
  | 0, _ => ⟨rfl, rfl, rfl⟩
  | n + 1, h => by
    obtain ⟨i1, i2, i3⟩ := iFit (o := o) n fun j hj => h j (by omega)
    cases hc : code[F + n]? with
    | none =>
      have e : ∀ f, iCells f code o F (n + 1) = iCells f code o F n := fun f => by
        unfold iCells
        rw [List.range_succ, List.flatMap_append]
        simp [hc]
      rw [e, e]
      exact ⟨i1, i2, i3⟩
    | some i =>
      obtain ⟨k1, k2, k3⟩ := fitI (h n (by omega) i hc) o ((F + n : Nat) : Int) (n : Int)
      rw [iCells_succ aCells o hc, iCells_succ eCells o hc]
      simp only [ofK_app]
      exact ⟨allP_app _ _ i1 k1, allP_app _ _ i2 k2, by rw [List.length_append, List.length_append, i3, k3]⟩
theorem tail0A (i : Ins) (o : List Int) (pc off : Int) (h : form i.op < 6) : tailA i o pc off = [] := by
  unfold tailA
  rw [if_neg (by omega), if_neg (by omega), if_neg (by omega)]
theorem tail0E (i : Ins) (o : List Int) (pc off : Int) (h : form i.op < 6) : tailE i o pc off = [] := by
  unfold tailE
  rw [if_neg (by omega), if_neg (by omega), if_neg (by omega)]
theorem tails (i : Ins) (o : List Int) (pc off : Int) : (tailA i o pc off = [] ∧ tailE i o pc off = []) ∨ ∃ c d, tailA i o pc off = [c] ∧ tailE i o pc off = [d] ∧ ctlB c.kind = true ∧ ctlB d.kind = true ∧ ((c.kind = 9 ∧ d.kind = 10) ∨ (c.kind = 10 ∧ d.kind = 9) ∨ (c.kind = d.kind ∧ c.kind ≠ 9 ∧ c.kind ≠ 10)) := by
  unfold tailA tailE
  (repeat' split) <;> first
    | exact .inl ⟨rfl, rfl⟩
    | exact .inr ⟨_, _, rfl, rfl, by decide, by decide, by decide⟩
    | (refine .inr ⟨_, _, rfl, rfl, rfl, rfl, ?_⟩; simp [cI, cB])
/-- the shape of a block's cells -/
theorem blk_tl {p : Prg} (hr : rightP p = true) (o : List Int) {k : Nat} {b : Blk4} (h : (cutL p)[k]? = some b) : ∃ pa pe ta te, Tl [1, 2, 3, 4, 5] (sbAt p o b).a pa ta ∧ Tl [1, 6, 7, 8] (sbAt p o b).e pe te ∧
    ((ta = [] ∧ te = []) ∨ ∃ c d, ta = [c] ∧ te = [d] ∧ ctlB c.kind = true ∧ ctlB d.kind = true ∧ ((c.kind = 9 ∧ d.kind = 10) ∨ (c.kind = 10 ∧ d.kind = 9) ∨ (c.kind = d.kind ∧ c.kind ≠ 9 ∧ c.kind ≠ 10))) := by
  obtain ⟨s1, s2⟩ := sbAt_cells (o := o) h
  obtain ⟨b1, b2, b3, b4⟩ := blk_bd h
  have hk : k < (leadL p).length := by
    have := (List.getElem?_eq_some_iff.1 h).1
    rw [cutL_leads] at this; exact this
  have hblk := cut_at hk
  rw [hblk] at h
  cases h
  rw [s1, s2]
  obtain ⟨n, hn⟩ : ∃ n, bdAt p (k + 1) = bdAt p k + n + 1 := ⟨bdAt p (k + 1) - bdAt p k - 1, by omega⟩
  rw [show bdAt p (k + 1) - bdAt p k = n + 1 by omega]
  have hto : toAt p (leadL p) k = ((bdAt p k + n + 1 : Nat) : Int) := by rw [← hn, ← b2]; rfl
  have hlow : ∀ j, j < n → ∀ i, p.code[bdAt p k + j]? = some i → rightB i = true ∧ form i.op < 6 := fun j hj i hi => by
    refine ⟨(right_at hr hi).1, ?_⟩
    exact (in_block hr (List.getElem?_eq_getElem hk) (by rw [← blk_from (List.getElem?_eq_getElem hk), b1]; omega) (by rw [hto]; omega) hi).1
  obtain ⟨x, hx⟩ : ∃ x, p.code[bdAt p k + n]? = some x := ⟨p.code[bdAt p k + n]'(by omega), List.getElem?_eq_getElem (by omega)⟩
  have hxr := (right_at hr hx).1
  obtain ⟨pa, ha⟩ := iTl (f := aCells) (t := tailA) (m := [1, 2, 3, 4, 5]) tlA tail0A (code := p.code) (o := o) (F := bdAt p k) n hlow
  obtain ⟨pe, he⟩ := iTl (f := eCells) (t := tailE) (m := [1, 6, 7, 8]) tlE tail0E (code := p.code) (o := o) (F := bdAt p k) n hlow
  obtain ⟨qa, hqa⟩ := tlA hxr o ((bdAt p k + n : Nat) : Int) (n : Int)
  obtain ⟨qe, hqe⟩ := tlE hxr o ((bdAt p k + n : Nat) : Int) (n : Int)
  rw [iCells_succ aCells o hx, iCells_succ eCells o hx]
  refine ⟨pa ++ qa, pe ++ qe, tailA x o ((bdAt p k + n : Nat) : Int) (n : Int), tailE x o ((bdAt p k + n : Nat) : Int) (n : Int), ⟨by rw [ha.eq, hqa.eq, List.append_nil, List.append_assoc], fun c hc => ?_⟩, ⟨by rw [he.eq, hqe.eq, List.append_nil, List.append_assoc], fun c hc => ?_⟩, tails x o _ _⟩
  · rcases List.mem_append.1 hc with hc | hc
    · exact ha.no c hc
    · exact hqa.no c hc
  · rcases List.mem_append.1 hc with hc | hc
    · exact he.no c hc
    · exact hqe.no c hc
theorem blk_fit {p : Prg} (hr : rightP p = true) (o : List Int) {k : Nat} {b : Blk4} (h : (cutL p)[k]? = some b) : allP sameReg (ofK 5 (sbAt p o b).a) (ofK 6 (sbAt p o b).e) = true ∧ allP sameIns (ofK 3 (sbAt p o b).a) (ofK 7 (sbAt p o b).e) = true ∧ (ofK 4 (sbAt p o b).a).length = (ofK 8 (sbAt p o b).e).length := by
  obtain ⟨s1, s2⟩ := sbAt_cells (o := o) h
  rw [s1, s2]
  exact iFit _ fun j _ i hi => (right_at hr hi).1
/-- each block of a split is balanced -/
theorem bal_split {p : Prg} (hr : rightP p = true) (o : List Int) {k : Nat} {b : Blk4} (h : (cutL p)[k]? = some b) : balB (sbAt p o b) = true := by
  obtain ⟨pa, pe, ta, te, h1, h2, h3⟩ := blk_tl hr o h
  obtain ⟨f1, f2, f3⟩ := blk_fit hr o h
  obtain ⟨l1, l2⟩ := last_tl h1
  obtain ⟨l3, l4⟩ := last_tl h2
  have k1 : kindsB (sbAt p o b).a [1, 2, 3, 4, 5] = true := kinds_tl h1 (by
    rcases h3 with ⟨h, _⟩ | ⟨c, d, hc, _, hcc, _⟩
    · exact .inl h
    · exact .inr ⟨c, hc, hcc⟩)
  have k2 : kindsB (sbAt p o b).e [1, 6, 7, 8] = true := kinds_tl h2 (by
    rcases h3 with ⟨_, h⟩ | ⟨c, d, _, hd, _, hdd, _⟩
    · exact .inl h
    · exact .inr ⟨d, hd, hdd⟩)
  have k3 : endsB (sbAt p o b).a (sbAt p o b).e = true := by
    unfold endsB
    rcases h3 with ⟨ha, he⟩ | ⟨c, d, hc, hd, hcc, hdd, hk⟩
    · rw [l1 ha, l3 he]; decide
    · rw [l2 c hc hcc, l4 d hd hdd]
      rcases hk with ⟨e1, e2⟩ | ⟨e1, e2⟩ | ⟨e1, e2, e3⟩
      · rw [e1, e2]; decide
      · rw [e1, e2]; decide
      · rw [if_neg e2, if_neg e3, e1]; simp
  unfold balB
  rw [k1, k2, k3, f1, f2, f3]
  simp

end Go.Proofs.YtkfmecmmbnehjaaGreat
/-
A block of a split that lacks a cell that joins both sides is balanced no more: the plain law. No condition.
-/
namespace Go.Proofs.YtkfmecmmbnehjaaGreat
set_option linter.unusedSimpArgs false
set_option linter.unusedVariables false

theorem i64_and3 (n : Int) : bits .and .i64 n 3 = n % 4 := by
  have h3 : (BitVec.ofInt 64 3).toNat = 2 ^ 2 - 1 := by decide
  have key : (BitVec.ofInt 64 n &&& BitVec.ofInt 64 3).toNat = (n % ((2 ^ 64 : Nat) : Int)).toNat % 2 ^ 2 := by
    rw [BitVec.toNat_and, BitVec.toNat_ofInt, h3, Nat.and_two_pow_sub_one_eq_mod]
  show IntKind.i64.wrap ((BitVec.ofInt 64 n &&& BitVec.ofInt 64 3).toNat : Nat) = n % 4
  rw [key, IntKind.wrap_i64]
  omega
theorem ofK_gone {l : List Cell} {i : Nat} {c : Cell} (h : l[i]? = some c) : (ofK c.kind (l.take i ++ l.drop (i + 1))).length + 1 = (ofK c.kind l).length := by
  have e : l.take i ++ ([c] ++ l.drop (i + 1)) = l := by
    obtain ⟨hi, rfl⟩ := List.getElem?_eq_some_iff.1 h
    rw [List.singleton_append, ← List.drop_eq_getElem_cons hi, List.take_append_drop]
  have e2 := congrArg (fun m => (ofK c.kind m).length) e
  simp only [ofK_app, List.length_append] at e2 ⊢
  have : (ofK c.kind [c]).length = 1 := by simp [ofK]
  omega
theorem kinds_in {a : List Cell} {m : List Int} (h : kindsB a m = true) {i : Nat} {c : Cell} (hc : a[i]? = some c) (hn : ctlB c.kind = false) : 0 ≤ idxL c.kind m 0 := by
  refine Classical.byContradiction fun hne => ?_
  rw [kindsB_no hc (by unfold kOk; rw [hn]; simpa using hne)] at h
  cases h
theorem idx5_in {k : Int} (h : 0 ≤ idxL k [1, 2, 3, 4, 5] 0) : 1 ≤ k ∧ k ≤ 5 := by
  refine Classical.byContradiction fun hne => ?_
  have : idxL k [1, 2, 3, 4, 5] 0 = -1 := by
    simp only [idxL, beq_iff_eq]
    rw [if_neg (by omega), if_neg (by omega), if_neg (by omega), if_neg (by omega), if_neg (by omega)]
  omega
theorem idx4_in {k : Int} (h : 0 ≤ idxL k [1, 6, 7, 8] 0) : k = 1 ∨ k = 6 ∨ k = 7 ∨ k = 8 := by
  refine Classical.byContradiction fun hne => ?_
  have : idxL k [1, 6, 7, 8] 0 = -1 := by
    simp only [idxL, beq_iff_eq]
    rw [if_neg (by omega), if_neg (by omega), if_neg (by omega), if_neg (by omega)]
  omega
theorem tl_ctl {m : List Int} {l pre tail : List Cell} (h : Tl m l pre tail) (ht : tail = [] ∨ ∃ d, tail = [d]) {i : Nat} {c : Cell} (hc : l[i]? = some c) (hk : ctlB c.kind = true) : tail = [c] ∧ Tl m (l.take i ++ l.drop (i + 1)) pre [] := by
  have e := h.eq
  subst e
  rcases Nat.lt_or_ge i pre.length with hlt | hge
  · rw [List.getElem?_append_left hlt] at hc
    have := (h.no c (List.mem_of_getElem? hc)).1
    rw [hk] at this; cases this
  · rw [List.getElem?_append_right hge] at hc
    rcases ht with rfl | ⟨d, rfl⟩
    · simp at hc
    · have hi0 : i = pre.length := by
        have := (List.getElem?_eq_some_iff.1 hc).1
        simp at this
        omega
      subst hi0
      simp at hc
      subst hc
      refine ⟨rfl, ⟨?_, h.no⟩⟩
      rw [List.take_left, List.drop_eq_nil_of_le (by simp)]
theorem gone_a {p : Prg} (hr : rightP p = true) (o : List Int) {k : Nat} {b : Blk4} (h : (cutL p)[k]? = some b) {i : Nat} {c : Cell} (hc : (sbAt p o b).a[i]? = some c) (h1 : c.kind ≠ 1) (h2 : c.kind ≠ 2) {X : SB} (ha : X.a = (sbAt p o b).a.take i ++ (sbAt p o b).a.drop (i + 1)) (he : X.e = (sbAt p o b).e) : balB X = false := by
  cases hk : ctlB c.kind
  · have bal := bal_split hr o h
    unfold balB at bal
    simp only [Bool.and_eq_true] at bal
    obtain ⟨⟨⟨⟨⟨k1, k2⟩, _⟩, q1⟩, q2⟩, q3⟩ := bal
    have r := idx5_in (kinds_in k1 hc hk)
    have g := ofK_gone hc
    have n5 := allP_some q1
    have n3 := allP_some q2
    have n4 : (ofK 4 (sbAt p o b).a).length = (ofK 8 (sbAt p o b).e).length := by simpa using q3
    unfold balB
    rw [ha, he]
    rcases (show c.kind = 3 ∨ c.kind = 4 ∨ c.kind = 5 by omega) with e | e | e <;> rw [e] at g
    · rw [allP_len (P := sameIns) (by omega)]; simp
    · have : ((ofK 4 ((sbAt p o b).a.take i ++ (sbAt p o b).a.drop (i + 1))).length == (ofK 8 (sbAt p o b).e).length) = false := by
        rw [beq_eq_false_iff_ne]; omega
      rw [this]; simp
    · rw [allP_len (P := sameReg) (by omega)]; simp
  · obtain ⟨pa, pe, ta, te, t1, t2, t3⟩ := blk_tl hr o h
    have ht : ta = [] ∨ ∃ d, ta = [d] := by
      rcases t3 with ⟨h, _⟩ | ⟨c', _, h, _⟩
      · exact .inl h
      · exact .inr ⟨c', h⟩
    obtain ⟨u1, u2⟩ := tl_ctl t1 ht hc hk
    rcases t3 with ⟨ta0, _⟩ | ⟨c', d, hc', hd, hcc, hdd, hrel⟩
    · rw [ta0] at u1; cases u1
    have l1 := (last_tl u2).1 rfl
    have l2 := (last_tl t2).2 d hd hdd
    have hb : endsB X.a X.e = false := by
      unfold endsB
      rw [ha, he, l1, l2]
      unfold ctlB at hdd
      simp only [Bool.and_eq_true, decide_eq_true_eq] at hdd
      rw [if_neg (by omega), if_neg (by omega), beq_eq_false_iff_ne]
      omega
    unfold balB
    rw [hb]; simp
theorem gone_e {p : Prg} (hr : rightP p = true) (o : List Int) {k : Nat} {b : Blk4} (h : (cutL p)[k]? = some b) {i : Nat} {c : Cell} (hc : (sbAt p o b).e[i]? = some c) (h1 : c.kind ≠ 1) {X : SB} (ha : X.a = (sbAt p o b).a) (he : X.e = (sbAt p o b).e.take i ++ (sbAt p o b).e.drop (i + 1)) : balB X = false := by
  cases hk : ctlB c.kind
  · have bal := bal_split hr o h
    unfold balB at bal
    simp only [Bool.and_eq_true] at bal
    obtain ⟨⟨⟨⟨⟨k1, k2⟩, _⟩, q1⟩, q2⟩, q3⟩ := bal
    have r := idx4_in (kinds_in k2 hc hk)
    have g := ofK_gone hc
    have n5 := allP_some q1
    have n3 := allP_some q2
    have n4 : (ofK 4 (sbAt p o b).a).length = (ofK 8 (sbAt p o b).e).length := by simpa using q3
    unfold balB
    rw [ha, he]
    rcases (show c.kind = 6 ∨ c.kind = 7 ∨ c.kind = 8 by omega) with e | e | e <;> rw [e] at g
    · rw [allP_len (P := sameReg) (by omega)]; simp
    · rw [allP_len (P := sameIns) (by omega)]; simp
    · have : ((ofK 4 (sbAt p o b).a).length == (ofK 8 ((sbAt p o b).e.take i ++ (sbAt p o b).e.drop (i + 1))).length) = false := by
        rw [beq_eq_false_iff_ne]; omega
      rw [this]; simp
  · obtain ⟨pa, pe, ta, te, t1, t2, t3⟩ := blk_tl hr o h
    have ht : te = [] ∨ ∃ d, te = [d] := by
      rcases t3 with ⟨_, h⟩ | ⟨_, c', _, h, _⟩
      · exact .inl h
      · exact .inr ⟨c', h⟩
    obtain ⟨u1, u2⟩ := tl_ctl t2 ht hc hk
    rcases t3 with ⟨_, te0⟩ | ⟨c', d, hc', hd, hcc, hdd, hrel⟩
    · rw [te0] at u1; cases u1
    have l1 := (last_tl u2).1 rfl
    have l2 := (last_tl t1).2 c' hc' hcc
    have hb : endsB X.a X.e = false := by
      unfold endsB
      rw [ha, he, l1, l2]
      unfold ctlB at hcc
      simp only [Bool.and_eq_true, decide_eq_true_eq] at hcc
      split
      · decide
      · split
        · decide
        · rw [beq_eq_false_iff_ne]; omega
    unfold balB
    rw [hb]; simp
/-- a split has at place k what the block at place k is -/
theorem spl_k4 {p : Prg} {o : List Int} {k : Nat} {b : SB} (h : (splitL p o)[k]? = some b) : ∃ b4, (cutL p)[k]? = some b4 ∧ sbAt p o b4 = b := by
  unfold splitL at h
  rw [List.getElem?_map] at h
  obtain ⟨b4, h1, h2⟩ := Option.map_eq_some_iff.1 h
  exact ⟨b4, h1, h2⟩

end Go.Proofs.YtkfmecmmbnehjaaGreat
/-
How many cells an instruction has on a side, and which kinds there are: the plain law of CertHolds. No condition.
-/
namespace Go.Proofs.YtkfmecmmbnehjaaGreat
set_option linter.unusedSimpArgs false
set_option linter.unusedVariables false

/-- how many cells of one place -/
def cntO (l : List Cell) (x : Int) : Nat := l.countP fun c => c.off == x
theorem cntO_app (a b : List Cell) (x : Int) : cntO (a ++ b) x = cntO a x + cntO b x := List.countP_append
theorem cntO_one (c : Cell) (x : Int) : cntO [c] x = if c.off = x then 1 else 0 := by
  unfold cntO
  by_cases h : c.off = x <;> simp [h]
theorem cntO_le (l : List Cell) (x : Int) : cntO l x ≤ l.length := List.countP_le_length
theorem foldM_cnt (n : Int) : ∀ (l : List Cell) (x : Int), (foldM l n).1 x = (cntO l x : Int) := by
  intro l
  rw [← List.reverse_reverse l]
  generalize l.reverse = r
  induction r with
  | nil => intro x; rfl
  | cons c r ih =>
    intro x
    rw [List.reverse_cons, foldM_snoc, cntO_app, cntO_one]
    show (if x = c.off then (foldM r.reverse n).1 c.off + 1 else (foldM r.reverse n).1 x) = _
    rw [ih, ih]
    by_cases h : x = c.off
    · rw [if_pos h, if_pos h.symm, h]; omega
    · rw [if_neg h, if_neg (fun e => h e.symm)]; omega
theorem foldM_top {n : Int} (hn : n ≤ 3) : ∀ l : List Cell, (∀ x, cntO l x ≤ 3) → (foldM l n).2 ≤ 3 := by
  intro l
  rw [← List.reverse_reverse l]
  generalize l.reverse = r
  induction r with
  | nil => intro _; exact hn
  | cons c r ih =>
    intro h
    rw [List.reverse_cons] at h ⊢
    rw [foldM_snoc]
    have h1 := ih fun x => by have := h x; rw [cntO_app] at this; omega
    have h2 := h c.off
    rw [cntO_app, cntO_one, if_pos rfl] at h2
    show (if (foldM r.reverse n).1 c.off + 1 > (foldM r.reverse n).2 then (foldM r.reverse n).1 c.off + 1 else (foldM r.reverse n).2) ≤ 3
    rw [foldM_cnt]
    split
    · omega
    · exact h1
theorem most_le : ∀ (bl : List SB), (∀ b ∈ bl, (∀ x, cntO b.a x ≤ 3) ∧ ∀ x, cntO b.e x ≤ 3) → ∀ n : Int, n ≤ 3 → bl.foldl mostB n ≤ 3
  | [], _, n, hn => hn
  | b :: bl, h, n, hn => by
    rw [List.foldl_cons]
    refine most_le bl (fun b hb => h b (by simp [hb])) _ ?_
    obtain ⟨h1, h2⟩ := h b (by simp)
    unfold mostB mostL
    exact foldM_top (foldM_top hn b.a h1) b.e h2
theorem iCells_off3 {f : Ins → List Int → Int → Int → List Cell} (hf : ∀ (i : Ins) (o : List Int) (pc off : Int), ∀ c ∈ f i o pc off, c.pc = pc ∧ c.off = off) (hl : ∀ i o pc off, (f i o pc off).length ≤ 3) (code : List Ins) (o : List Int) (F : Nat) : ∀ n : Nat, (∀ x, cntO (iCells f code o F n) x ≤ 3) ∧ ∀ x : Int, (n : Int) ≤ x → cntO (iCells f code o F n) x = 0
  | 0 => ⟨fun x => by show (0 : Nat) ≤ 3; omega, fun x _ => rfl⟩
  | n + 1 => by
    obtain ⟨h1, h2⟩ := iCells_off3 hf hl code o F n
    cases hc : code[F + n]? with
    | none =>
      have e : iCells f code o F (n + 1) = iCells f code o F n := by
        unfold iCells
        rw [List.range_succ, List.flatMap_append]
        simp [hc]
      rw [e]
      exact ⟨h1, fun x hx => h2 x (by omega)⟩
    | some i =>
      have ho : ∀ x : Int, x ≠ (n : Int) → cntO (f i o ((F + n : Nat) : Int) (n : Int)) x = 0 := fun x hx => by
        unfold cntO
        rw [List.countP_eq_zero]
        intro c hc
        rw [(hf _ _ _ _ c hc).2]
        simp
        omega
      rw [iCells_succ f o hc]
      refine ⟨fun x => ?_, fun x hx => ?_⟩
      · rw [cntO_app]
        by_cases hx : x = (n : Int)
        · have := h2 x (by omega)
          have l1 := cntO_le (f i o ((F + n : Nat) : Int) (n : Int)) x
          have l2 := hl i o ((F + n : Nat) : Int) (n : Int)
          omega
        · rw [ho x hx]
          exact h1 x
      · rw [cntO_app, h2 x (by omega), ho x (by omega)]
theorem split_most {p : Prg} {o : List Int} : mostS ⟨splitL p o, o⟩ ≤ 3 := by
  refine most_le _ (fun b hb => ?_) 0 (by omega)
  obtain ⟨k, hk, rfl⟩ := List.getElem_of_mem hb
  obtain ⟨b4, h4, hs⟩ := spl_k4 (List.getElem?_eq_getElem hk)
  rw [← hs]
  obtain ⟨s1, s2⟩ := sbAt_cells (o := o) h4
  rw [s1, s2]
  exact ⟨(iCells_off3 (fun _ _ _ _ => aCells_pc) aCells_len _ _ _ _).1, (iCells_off3 (fun _ _ _ _ => eCells_pc) eCells_len _ _ _ _).1⟩
theorem split_off {p : Prg} {o : List Int} (hr : rightP p = true) : (splitL p o).all offOk = true := by
  rw [List.all_eq_true]
  intro b hb
  obtain ⟨k, hk, rfl⟩ := List.getElem_of_mem hb
  obtain ⟨b4, h4, hs⟩ := spl_k4 (List.getElem?_eq_getElem hk)
  rw [← hs]
  obtain ⟨_, _, _, hb4⟩ := blk_bd h4
  have hl := right_len hr
  have key : ∀ c ∈ (sbAt p o b4).a ++ (sbAt p o b4).e, wfI c.off = true := fun c hc => by
    obtain ⟨m, _, h1, h2, h3⟩ := cell_ok h4 hc
    rw [h3]
    unfold wfI
    simp only [Bool.and_eq_true, decide_eq_true_eq]
    omega
  unfold offOk
  rw [Bool.and_eq_true, List.all_eq_true, List.all_eq_true]
  exact ⟨fun c hc => key c (List.mem_append_left _ hc), fun c hc => key c (List.mem_append_right _ hc)⟩
/-- how many cells of the first kinds -/
def cntT (l : List Cell) (j : Nat) : Nat := l.countP fun c => decide (1 ≤ c.kind) && decide (c.kind ≤ (j : Int))
theorem cntT_zero (l : List Cell) : cntT l 0 = 0 := by
  unfold cntT
  rw [List.countP_eq_zero]
  intro c _
  simp only [Bool.and_eq_true, decide_eq_true_eq]
  omega
theorem cntT_succ (j : Nat) : ∀ l : List Cell, cntT l (j + 1) = cntT l j + cntK l ((j + 1 : Nat) : Int)
  | [] => rfl
  | c :: l => by
    have ih := cntT_succ j l
    unfold cntT cntK at *
    rw [List.countP_cons, List.countP_cons, List.countP_cons, ih]
    simp only [Bool.and_eq_true, decide_eq_true_eq, beq_iff_eq]
    split <;> split <;> split <;> omega
theorem cntT_le (l : List Cell) (j : Nat) : cntT l j ≤ l.length := List.countP_le_length
theorem cntT_all {l : List Cell} (h : ∀ c ∈ l, 1 ≤ c.kind ∧ c.kind ≤ 12) : cntT l 12 = l.length := by
  unfold cntT
  rw [List.countP_eq_length]
  intro c hc
  have := h c hc
  simp only [Bool.and_eq_true, decide_eq_true_eq]
  omega
theorem ofK_cnt (k : Int) (l : List Cell) : (ofK k l).length = cntK l k := by
  unfold ofK cntK
  rw [List.countP_eq_length_filter]
theorem kinds_at {a : List Cell} {m : List Int} (h : kindsB a m = true) {c : Cell} (hc : c ∈ a) : ctlB c.kind = true ∨ 0 ≤ idxL c.kind m 0 := by
  obtain ⟨i, hi, rfl⟩ := List.getElem_of_mem hc
  cases hk : ctlB a[i].kind
  · exact .inr (kinds_in h (List.getElem?_eq_getElem hi) hk)
  · exact .inl rfl
theorem ctl_rng {k : Int} (h : ctlB k = true) : 1 ≤ k ∧ k ≤ 12 := by
  unfold ctlB at h
  simp only [Bool.and_eq_true, decide_eq_true_eq] at h
  omega
/-- what CertHolds asks of the numbers of one block -/
theorem blk_cnt {p : Prg} (hr : rightP p = true) (o : List Int) {k : Nat} {b : Blk4} (h : (cutL p)[k]? = some b) : cntT (sbAt p o b).a 12 = (sbAt p o b).a.length ∧ cntT (sbAt p o b).e 12 = (sbAt p o b).e.length ∧ cntK (sbAt p o b).a 5 = cntK (sbAt p o b).e 6 ∧ cntK (sbAt p o b).a 3 = cntK (sbAt p o b).e 7 ∧ cntK (sbAt p o b).a 4 = cntK (sbAt p o b).e 8 := by
  have bal := bal_split hr o h
  unfold balB at bal
  simp only [Bool.and_eq_true] at bal
  obtain ⟨⟨⟨⟨⟨k1, k2⟩, _⟩, q1⟩, q2⟩, q3⟩ := bal
  have n5 := allP_some q1
  have n3 := allP_some q2
  have n4 : (ofK 4 (sbAt p o b).a).length = (ofK 8 (sbAt p o b).e).length := by simpa using q3
  rw [ofK_cnt, ofK_cnt] at n5 n3 n4
  refine ⟨cntT_all fun c hc => ?_, cntT_all fun c hc => ?_, n5, n3, n4⟩
  · rcases kinds_at k1 hc with h | h
    · exact ctl_rng h
    · have := idx5_in h; omega
  · rcases kinds_at k2 hc with h | h
    · exact ctl_rng h
    · have := idx4_in h; omega

end Go.Proofs.YtkfmecmmbnehjaaGreat
namespace Go.Proofs.YtkfmecmmbnehjaaGreat
set_option linter.unusedSimpArgs false
set_option linter.unusedVariables false

def spCHo : Spec := ⟨[], fun xs => match xs with
  | [x, .s (.int .i64 _)] => (prgOf x).bind fun _ => some (.s (.bool true))
  | _ => none⟩
def cUc : Orc := upd (upd cUb 19 (some spOwners)) 18 (some spSpW)
theorem cUc_ok : ∀ g sp, cUc g = some sp → Impl Tryz.prog g sp := orc_upd (orc_upd cUb_ok owners_impl) rspw_impl
theorem cUc_at : cUc 7 = some spTrue ∧ cUc 20 = some spSpA ∧ cUc 8 = some spFew ∧ cUc 14 = some spRightS ∧ cUc 12 = some spBal ∧ cUc 10 = some spCounts ∧ cUc 16 = some spMost ∧ cUc 19 = some spOwners ∧ cUc 18 = some spSpW := ⟨rfl, rfl, rfl, rfl, rfl, rfl, rfl, rfl, rfl⟩
theorem take_iv24 {o : List Int} (h : o.length = 24) : List.take 24 (o.map iv) = o.map iv := List.take_of_length_le (by rw [List.length_map]; omega)
def hoI (p : Prg) (o : List Int) (BL : List SB) (s : S) : Prop := s.env 2 = .ptr 2 1 0 ∧ s.st 2 = ⟨1, .box [.lst false 5 (p.code.map Ins.v), .s (.int .i64 p.size), .lst false 1 (p.data.map u8v)]⟩ ∧ s.env 6 = .ptr 6 1 0 ∧ s.st 6 = ⟨1, .box (.lst true 6 (BL.map SB.v) :: o.map iv)⟩ ∧
  ∃ k : Nat, s.env 8 = .s (.int .i64 k) ∧ k ≤ BL.length
def hoJ (p : Prg) (o : List Int) (BL : List SB) (k : Nat) (C : List Int) (A E : List Cell) (s : S) : Prop := s.env 2 = .ptr 2 1 0 ∧ s.st 2 = ⟨1, .box [.lst false 5 (p.code.map Ins.v), .s (.int .i64 p.size), .lst false 1 (p.data.map u8v)]⟩ ∧ s.env 6 = .ptr 6 1 0 ∧ s.st 6 = ⟨1, .box (.lst true 6 (BL.map SB.v) :: o.map iv)⟩ ∧
  s.env 8 = .s (.int .i64 k) ∧ ∃ v j : Nat, s.env 9 = .ptr 9 v 0 ∧ s.st 9 = ⟨v, .box (C.map iv)⟩ ∧ s.env 11 = .s (.int .i64 j) ∧ j ≤ 12 ∧ s.env 10 = .s (.int .i64 ((cntT A j : Int) + (cntT E j : Int)))
theorem cnt_at (A E : List Cell) {j : Nat} (h : j < 12) : oAt (cntL A ++ cntL E) ((j : Nat) : Int) = (cntK A ((j + 1 : Nat) : Int) : Int) ∧ oAt (cntL A ++ cntL E) ((12 + j : Nat) : Int) = (cntK E ((j + 1 : Nat) : Int) : Int) := by
  have l1 := cntL_len A
  constructor
  · rw [oAt, Int.toNat_natCast, List.getD_eq_getElem?_getD, List.getElem?_append_left (by omega), cntL_at _ h]; rfl
  · rw [oAt, Int.toNat_natCast, List.getD_eq_getElem?_getD, List.getElem?_append_right (by omega), l1, show 12 + j - 12 = j by omega, cntL_at _ h]; rfl
set_option maxRecDepth 8000 in
set_option maxHeartbeats 32000000 in
theorem cho_impl : Impl Tryz.prog 4 spCHo := by
  refine impl_walk2 mixed cUc_ok eqT_ok Tryz.func4 rfl Tryz.ntmps4 (by kernel_rfl) ?_
  intro xs r h
  unfold spCHo at h
  simp only at h
  (try split at h) <;> try (cases (show none = some r from h); done)
  rename_i x pick
  obtain ⟨p, hp, h3⟩ := Option.bind_eq_some_iff.1 h
  clear h
  cases h3
  refine ⟨_, (SeesL.cons (prgOf_sees hp) .same).args, by simp, ?_⟩
  have hF := few_v p
  have hS := spSpA_v p
  have hol0 := of_len p
  obtain ⟨o0, hoe⟩ : ∃ o, ofO p = o := ⟨_, rfl⟩
  have hcl : rightP p = true → closedB p o0 = true := fun h => by rw [← hoe]; exact of_closed h
  rw [hoe] at hS hol0
  have hto0 := take_iv hol0
  have hO := spOwners_fn pick
  have hol1 := ownS_len pick 15
  have hWi := spSpW_v hol1 p
  obtain ⟨o1, hqe⟩ : ∃ q, ownS pick 15 = q := ⟨_, rfl⟩
  rw [hqe] at hO hol1 hWi
  have hto1 := take_iv hol1
  simp only [Prg.v] at hF hS hWi
  cases c2 : closedB p o1
  · rw [swV_no c2] at hWi
    simp only [noS, z16, List.replicate] at hWi
    cases cr : rightP p
    · have hc : closedB p o0 = false := by unfold closedB; rw [cr]; rfl
      rw [swV_no hc] at hS
      simp only [noS, z16, List.replicate] at hS
      cases c1 : fewB p
      · rw [c1] at hF
        simp only [go_sem, seval, eq_self, reduceCtorEq, Prg.v, cUc_at, spTrue_mv, spTrue_fn, spSpA_mv, hS, spFew_mv, hF, spOwners_mv, hO, spSpW_mv, hWi, hto1, hol1, z16, List.replicate, List.length_map]
        repeat' ((first | (refine AG_of ?_ ?_ <;> intro h) | (refine AB_of ?_ ?_ <;> intro h)) <;> simp only [go_sem, seval, eq_self, reduceCtorEq, Prg.v, cUc_at, spTrue_mv, spTrue_fn, spSpA_mv, hS, spFew_mv, hF, spOwners_mv, hO, spSpW_mv, hWi, hto1, hol1, z16, List.replicate, List.length_map, h])
        refine A_draw_of [6] [6] (by kernel_rfl) ?_
        simp only [go_sem, seval, eq_self, reduceCtorEq, Prg.v, cUc_at, spTrue_mv, spTrue_fn, spSpA_mv, hS, spFew_mv, hF, spOwners_mv, hO, spSpW_mv, hWi, hto1, hol1, z16, List.replicate, List.length_map]
        repeat' ((first | (refine AG_of ?_ ?_ <;> intro h) | (refine AB_of ?_ ?_ <;> intro h) | (refine A_draw_of [] [] (by kernel_rfl) ?_ <;> have h := mark)) <;> simp only [go_sem, seval, eq_self, reduceCtorEq, Prg.v, cUc_at, spTrue_mv, spTrue_fn, spSpA_mv, hS, spFew_mv, hF, spOwners_mv, hO, spSpW_mv, hWi, hto1, hol1, z16, List.replicate, List.length_map, h])
        all_goals (first | refine fin_ret ?_ | refine fin_normal ?_)
        all_goals simp only [resOf, Tryz.results4, Tryz.ntmps4, go_sem, seval, eq_self, reduceCtorEq]
      · rw [c1] at hF
        simp only [go_sem, seval, eq_self, reduceCtorEq, Prg.v, cUc_at, spTrue_mv, spTrue_fn, spSpA_mv, hS, spFew_mv, hF, spOwners_mv, hO, spSpW_mv, hWi, hto1, hol1, z16, List.replicate, List.length_map]
        repeat' ((first | (refine AG_of ?_ ?_ <;> intro h) | (refine AB_of ?_ ?_ <;> intro h)) <;> simp only [go_sem, seval, eq_self, reduceCtorEq, Prg.v, cUc_at, spTrue_mv, spTrue_fn, spSpA_mv, hS, spFew_mv, hF, spOwners_mv, hO, spSpW_mv, hWi, hto1, hol1, z16, List.replicate, List.length_map, h])
        refine A_draw_of [6] [6] (by kernel_rfl) ?_
        simp only [go_sem, seval, eq_self, reduceCtorEq, Prg.v, cUc_at, spTrue_mv, spTrue_fn, spSpA_mv, hS, spFew_mv, hF, spOwners_mv, hO, spSpW_mv, hWi, hto1, hol1, z16, List.replicate, List.length_map]
        repeat' ((first | (refine AG_of ?_ ?_ <;> intro h) | (refine AB_of ?_ ?_ <;> intro h) | (refine A_draw_of [] [] (by kernel_rfl) ?_ <;> have h := mark)) <;> simp only [go_sem, seval, eq_self, reduceCtorEq, Prg.v, cUc_at, spTrue_mv, spTrue_fn, spSpA_mv, hS, spFew_mv, hF, spOwners_mv, hO, spSpW_mv, hWi, hto1, hol1, z16, List.replicate, List.length_map, h])
        all_goals (first | refine fin_ret ?_ | refine fin_normal ?_)
        all_goals simp only [resOf, Tryz.results4, Tryz.ntmps4, go_sem, seval, eq_self, reduceCtorEq]
    have hc := hcl cr
    rw [swV_ok hc] at hS
    obtain ⟨o, ho⟩ : ∃ o, o0 = o := ⟨_, rfl⟩
    have hol := hol0
    have hto := hto0
    rw [ho] at hc hS hol hto
    clear hol0 hto0 hcl
    cases c1 : fewB p
    · rw [c1] at hF
      simp only [go_sem, seval, eq_self, reduceCtorEq, Prg.v, cUc_at, spTrue_mv, spTrue_fn, spFew_mv, hF, spOwners_mv, hO, spSpW_mv, hWi, hto1, hol1, hto, hol, z16, List.replicate, List.length_map, spSpA_mv, hS]
      repeat' ((first | (refine AG_of ?_ ?_ <;> intro h) | (refine AB_of ?_ ?_ <;> intro h)) <;> simp only [go_sem, seval, eq_self, reduceCtorEq, Prg.v, cUc_at, spTrue_mv, spTrue_fn, spFew_mv, hF, spOwners_mv, hO, spSpW_mv, hWi, hto1, hol1, hto, hol, z16, List.replicate, List.length_map, spSpA_mv, hS, h])
      refine A_draw_of [6] [6] (by kernel_rfl) ?_
      simp only [go_sem, seval, eq_self, reduceCtorEq, Prg.v, cUc_at, spTrue_mv, spTrue_fn, spFew_mv, hF, spOwners_mv, hO, spSpW_mv, hWi, hto1, hol1, hto, hol, z16, List.replicate, List.length_map, spSpA_mv, hS]
      repeat' ((first | (refine AG_of ?_ ?_ <;> intro h) | (refine AB_of ?_ ?_ <;> intro h) | (refine A_draw_of [] [] (by kernel_rfl) ?_ <;> have h := mark)) <;> simp only [go_sem, seval, eq_self, reduceCtorEq, Prg.v, cUc_at, spTrue_mv, spTrue_fn, spFew_mv, hF, spOwners_mv, hO, spSpW_mv, hWi, hto1, hol1, hto, hol, z16, List.replicate, List.length_map, spSpA_mv, hS, h])
      all_goals (first | refine fin_ret ?_ | refine fin_normal ?_)
      all_goals simp only [resOf, Tryz.results4, Tryz.ntmps4, go_sem, seval, eq_self, reduceCtorEq]
    rw [c1] at hF
    have hfit := splitL_fit cr o
    have hoff := split_off (o := o) cr
    have hmost := split_most (p := p) (o := o)
    have hlist : ∀ b ∈ splitL p o, b.a.length ≤ 6000 ∧ b.e.length ≤ 6000 := fun b hb => by
      unfold splitL at hb
      obtain ⟨b0, hb0, rfl⟩ := List.mem_map.1 hb
      obtain ⟨k, hk, rfl⟩ := List.getElem_of_mem hb0
      have hrl := right_len cr
      obtain ⟨s1, s2⟩ := sbAt_cells (o := o) (List.getElem?_eq_getElem hk)
      obtain ⟨_, _, h3, h4⟩ := blk_bd (List.getElem?_eq_getElem hk)
      have l1 := iCells_len aCells_len p.code o (bdAt p k) (bdAt p (k + 1) - bdAt p k)
      have l2 := iCells_len eCells_len p.code o (bdAt p k) (bdAt p (k + 1) - bdAt p k)
      rw [s1, s2]
      omega
    have hcnt : ∀ (k : Nat) (b : SB), (splitL p o)[k]? = some b → balB b = true ∧ cntT b.a 12 = b.a.length ∧ cntT b.e 12 = b.e.length ∧ cntK b.a 5 = cntK b.e 6 ∧ cntK b.a 3 = cntK b.e 7 ∧ cntK b.a 4 = cntK b.e 8 := fun k b hb => by
      obtain ⟨b4, h4, hs⟩ := spl_k4 hb
      rw [← hs]
      exact ⟨bal_split cr o h4, blk_cnt cr o h4⟩
    have hrS : rightS p ⟨splitL p o, o⟩ = true := by unfold rightS; rw [hc, Bool.true_and]; exact decide_eq_true rfl
    obtain ⟨hN1, hN2⟩ := cutL_pos cr
    have hl1 := splitL_len p o
    obtain ⟨BL, hBL⟩ : ∃ BL, splitL p o = BL := ⟨_, rfl⟩
    rw [hBL] at hS hfit hoff hmost hlist hcnt hrS hl1
    have hR := spRightS_v (splOf_v false BL hol) hfit p
    rw [hrS] at hR
    have hM := spMost_v (splOf_v false BL hol) hfit hoff
    simp only [Prg.v] at hR
    obtain ⟨hfit1, hfit2⟩ := sbsFit_iff hfit
    obtain ⟨mo, hmo⟩ : ∃ m, mostS ⟨BL, o⟩ = m := ⟨_, rfl⟩
    rw [hmo] at hM hmost
    have gm : decide (mo ≤ 3) = true := decide_eq_true hmost
    simp only [go_sem, seval, eq_self, reduceCtorEq, Prg.v, cUc_at, spTrue_mv, spTrue_fn, spFew_mv, hF, spOwners_mv, hO, spSpW_mv, hWi, hto1, hol1, hto, hol, z16, List.replicate, List.length_map, spSpA_mv, hS]
    repeat' ((first | (refine AG_of ?_ ?_ <;> intro h) | (refine AB_of ?_ ?_ <;> intro h)) <;> simp only [go_sem, seval, eq_self, reduceCtorEq, Prg.v, cUc_at, spTrue_mv, spTrue_fn, spFew_mv, hF, spOwners_mv, hO, spSpW_mv, hWi, hto1, hol1, hto, hol, z16, List.replicate, List.length_map, spSpA_mv, hS, h])
    refine A_draw_of [6] [6] (by kernel_rfl) ?_
    simp only [go_sem, seval, eq_self, reduceCtorEq, Prg.v, cUc_at, spTrue_mv, spTrue_fn, spFew_mv, hF, spOwners_mv, hO, spSpW_mv, hWi, hto1, hol1, hto, hol, z16, List.replicate, List.length_map, spSpA_mv, hS]
    repeat' ((first | (refine AG_of ?_ ?_ <;> intro h) | (refine AB_of ?_ ?_ <;> intro h) | (refine A_draw_of [] [] (by kernel_rfl) ?_ <;> have h := mark)) <;> simp only [go_sem, seval, eq_self, reduceCtorEq, Prg.v, cUc_at, spTrue_mv, spTrue_fn, spFew_mv, hF, spOwners_mv, hO, spSpW_mv, hWi, hto1, hol1, hto, hol, z16, List.replicate, List.length_map, spSpA_mv, hS, h])
    refine A_loop (hoI p o BL) (fun s => BL.length - (numOf (s.env 8)).toNat) ?_ ?_
    · exact ⟨by simp [upd], by simp [upd], by simp [upd], by simp [upd], 0, by simp [upd], by omega⟩
    intro s hs
    obtain ⟨e2, t2, e6, t6, k, e8, hk⟩ := hs
    rcases Nat.lt_or_ge k BL.length with hlt | hge
    · obtain ⟨b, q⟩ : ∃ b, BL[k]? = some b := ⟨BL[k], List.getElem?_eq_getElem hlt⟩
      obtain ⟨la, le⟩ := hlist b (List.mem_of_getElem? q)
      obtain ⟨hb1, hb2, hb3, hb4, hb5, hb6⟩ := hcnt k b q
      have hB := spBal_v (b := b) (by unfold sbLit; simp only [Bool.and_eq_true, decide_eq_true_eq]; omega)
      rw [hb1] at hB
      have hCn := spCounts_v (hfit2 b (List.mem_of_getElem? q))
      have hat : ∀ j : Nat, j < 12 → oAt (cntL b.a ++ cntL b.e) ((j : Nat) : Int) = (cntK b.a ((j + 1 : Nat) : Int) : Int) ∧ oAt (cntL b.a ++ cntL b.e) ((12 + j : Nat) : Int) = (cntK b.e ((j + 1 : Nat) : Int) : Int) := fun j hj => cnt_at b.a b.e hj
      have hCl : (cntL b.a ++ cntL b.e).length = 24 := by rw [List.length_append, cntL_len, cntL_len]
      obtain ⟨C, hC⟩ : ∃ C, cntL b.a ++ cntL b.e = C := ⟨_, rfl⟩
      rw [hC] at hCn hat hCl
      obtain ⟨f1, t1, nx, tk, A, E⟩ := b
      simp only [SB.v] at la le hB hCn hat hb2 hb3 hb4 hb5 hb6
      have g0 : decide ((k : Int) < (BL.length : Int)) = true := by simp; omega
      have z0 := Int.natCast_nonneg k
      have n2 : IntKind.i64.wrap ((k : Int) + 1) = (k + 1 : Nat) := by rw [w_i64 (by omega) (by omega)]; omega
      have hCt := take_iv24 hCl
      simp only [go_sem, seval, eq_self, reduceCtorEq, Prg.v, cUc_at, spTrue_mv, spTrue_fn, spFew_mv, hF, spOwners_mv, hO, spSpW_mv, hWi, hto1, hol1, hto, hol, z16, List.replicate, List.length_map, spSpA_mv, hS, SB.v, e2, t2, e6, t6, e8, g0, z0, q, spBal_mv, hB, spCounts_mv, hCn, hCl, hCt, Int.toNat_natCast, List.getElem?_map]
      repeat' ((first | (refine AG_of ?_ ?_ <;> intro h) | (refine AB_of ?_ ?_ <;> intro h) | (refine A_draw_of [] [] (by kernel_rfl) ?_ <;> have h := mark)) <;> simp only [go_sem, seval, eq_self, reduceCtorEq, Prg.v, cUc_at, spTrue_mv, spTrue_fn, spFew_mv, hF, spOwners_mv, hO, spSpW_mv, hWi, hto1, hol1, hto, hol, z16, List.replicate, List.length_map, spSpA_mv, hS, SB.v, e2, t2, e6, t6, e8, g0, z0, q, spBal_mv, hB, spCounts_mv, hCn, hCl, hCt, Int.toNat_natCast, List.getElem?_map, h])
      refine A_loop (hoJ p o BL k C A E) (fun s => 12 - (numOf (s.env 11)).toNat) ?_ ?_
      · exact ⟨by simp [upd, e2], by simp [upd, t2], by simp [upd, e6], by simp [upd, t6], by simp [upd, e8], (s.st 9).ver + 1, 0, by simp [upd], by simp [upd, hCt], by simp [upd], by omega, by simp [upd, cntT_zero]⟩
      have e8O := e8
      clear e2 t2 e6 t6 e8
      intro s2 hs
      obtain ⟨e2, t2, e6, t6, e8, v, j, e9, t9, e11, hj, e10⟩ := hs
      rcases Nat.lt_or_ge j 12 with hjn | hjn
      · have g1 : decide ((j : Int) < 12) = true := by simp; omega
        have zj := Int.natCast_nonneg j
        have hj2 : (j : Int) < 12 := by omega
        have n3 : IntKind.i64.wrap ((j : Int) + 1) = (j + 1 : Nat) := by rw [w_i64 (by omega) (by omega)]; omega
        have d1 := drop_iv (o := C) (k := j) (by omega)
        have d2 := drop_iv (o := C) (k := 12 + j) (by omega)
        obtain ⟨a1, a2⟩ := hat j hjn
        rw [a1] at d1
        rw [a2] at d2
        have u1 := cntT_succ j A
        have u2 := cntT_succ j E
        have u3 := cntT_le A (j + 1)
        have u4 := cntT_le E (j + 1)
        obtain ⟨x1, hx1⟩ : ∃ x, cntK A ((j + 1 : Nat) : Int) = x := ⟨_, rfl⟩
        obtain ⟨x2, hx2⟩ : ∃ x, cntK E ((j + 1 : Nat) : Int) = x := ⟨_, rfl⟩
        rw [hx1] at d1 u1
        rw [hx2] at d2 u2
        have w1 : IntKind.i64.wrap ((cntT A j : Int) + (cntT E j : Int) + (x1 : Int)) = (cntT A j : Int) + (cntT E j : Int) + (x1 : Int) := by rw [w_i64 (by omega) (by omega)]
        have w2 : IntKind.i64.wrap ((cntT A j : Int) + (cntT E j : Int) + (x1 : Int) + (x2 : Int)) = (cntT A (j + 1) : Int) + (cntT E (j + 1) : Int) := by rw [w_i64 (by omega) (by omega)]; omega
        simp only [go_sem, seval, eq_self, reduceCtorEq, e2, t2, e6, t6, e8, e9, t9, e10, e11, g1, zj, hj2, n3, d1, d2, w1, w2, hCl, Int.toNat_natCast, Nat.mul_one, Nat.zero_add, Nat.one_mul, Nat.zero_mul, List.length_map]
        repeat' ((first | (refine AG_of ?_ ?_ <;> intro h) | (refine AB_of ?_ ?_ <;> intro h) | (refine A_draw_of [] [] (by kernel_rfl) ?_ <;> have h := mark)) <;> simp only [go_sem, seval, eq_self, reduceCtorEq, e2, t2, e6, t6, e8, e9, t9, e10, e11, g1, zj, hj2, n3, d1, d2, w1, w2, hCl, Int.toNat_natCast, Nat.mul_one, Nat.zero_add, Nat.one_mul, Nat.zero_mul, List.length_map, h])
        exact ⟨⟨by simp [upd, e2], by simp [upd, t2], by simp [upd, e6], by simp [upd, t6], by simp [upd, e8], v, j + 1, by simp [upd, e9], by simp [upd, t9], by simp [upd], by omega, by simp [upd]⟩, by simp [upd, numOf, e11]; omega⟩
      · have hj12 : j = 12 := by omega
        have g1 : decide ((j : Int) < 12) = false := by simp; omega
        rw [hj12, hb2, hb3] at e10
        have d4 := drop_iv (o := C) (k := 4) (by omega)
        have d17 := drop_iv (o := C) (k := 17) (by omega)
        have d2 := drop_iv (o := C) (k := 2) (by omega)
        have d18 := drop_iv (o := C) (k := 18) (by omega)
        have d3 := drop_iv (o := C) (k := 3) (by omega)
        have d19 := drop_iv (o := C) (k := 19) (by omega)
        have a4 : oAt C ((4 : Nat) : Int) = (cntK A 5 : Int) := (hat 4 (by omega)).1
        have a17 : oAt C ((17 : Nat) : Int) = (cntK E 6 : Int) := (hat 5 (by omega)).2
        have a2 : oAt C ((2 : Nat) : Int) = (cntK A 3 : Int) := (hat 2 (by omega)).1
        have a18 : oAt C ((18 : Nat) : Int) = (cntK E 7 : Int) := (hat 6 (by omega)).2
        have a3 : oAt C ((3 : Nat) : Int) = (cntK A 4 : Int) := (hat 3 (by omega)).1
        have a19 : oAt C ((19 : Nat) : Int) = (cntK E 8 : Int) := (hat 7 (by omega)).2
        rw [a4] at d4
        rw [a17, ← hb4] at d17
        rw [a2] at d2
        rw [a18, ← hb5] at d18
        rw [a3] at d3
        rw [a19, ← hb6] at d19
        have ws : IntKind.i64.wrap ((A.length : Int) + (E.length : Int)) = (A.length : Int) + (E.length : Int) := by rw [w_i64 (by omega) (by omega)]
        have bne : ∀ x : Int, (x != x) = false := fun x => by simp
        simp only [go_sem, seval, eq_self, reduceCtorEq, e2, t2, e6, t6, e8, e9, t9, e10, e11, g1, z0, g0, q, ws, bne, d4, d17, d2, d18, d3, d19, hCl, SB.v, Int.toNat_natCast, Nat.mul_one, Nat.zero_add, Nat.one_mul, Nat.zero_mul, List.length_map, List.getElem?_map, n2]
        repeat' ((first | (refine AG_of ?_ ?_ <;> intro h) | (refine AB_of ?_ ?_ <;> intro h) | (refine A_draw_of [] [] (by kernel_rfl) ?_ <;> have h := mark)) <;> simp only [go_sem, seval, eq_self, reduceCtorEq, e2, t2, e6, t6, e8, e9, t9, e10, e11, g1, z0, g0, q, ws, bne, d4, d17, d2, d18, d3, d19, hCl, SB.v, Int.toNat_natCast, Nat.mul_one, Nat.zero_add, Nat.one_mul, Nat.zero_mul, List.length_map, List.getElem?_map, n2, h])
        exact ⟨⟨by simp [upd, e2], by simp [upd, t2], by simp [upd, e6], by simp [upd, t6], k + 1, by simp [upd], by omega⟩, by simp [upd, numOf, e8O]; omega⟩
    · have hkl : k = BL.length := by omega
      have g0 : decide ((k : Int) < (BL.length : Int)) = false := by simp; omega
      simp only [go_sem, seval, eq_self, reduceCtorEq, Prg.v, cUc_at, spTrue_mv, spTrue_fn, spFew_mv, hF, spOwners_mv, hO, spSpW_mv, hWi, hto1, hol1, hto, hol, z16, List.replicate, List.length_map, spSpA_mv, hS, e2, t2, e6, t6, e8, g0, spRightS_mv, hR, spMost_mv, hM, gm]
      repeat' ((first | (refine AG_of ?_ ?_ <;> intro h) | (refine AB_of ?_ ?_ <;> intro h) | (refine A_draw_of [] [] (by kernel_rfl) ?_ <;> have h := mark)) <;> simp only [go_sem, seval, eq_self, reduceCtorEq, Prg.v, cUc_at, spTrue_mv, spTrue_fn, spFew_mv, hF, spOwners_mv, hO, spSpW_mv, hWi, hto1, hol1, hto, hol, z16, List.replicate, List.length_map, spSpA_mv, hS, e2, t2, e6, t6, e8, g0, spRightS_mv, hR, spMost_mv, hM, gm, h])
      all_goals (first | refine fin_ret ?_ | refine fin_normal ?_)
      all_goals simp only [resOf, Tryz.results4, Tryz.ntmps4, go_sem, seval, eq_self, reduceCtorEq]
  · have cr := closed_right c2
    have hc := c2
    rw [swV_ok c2] at hWi
    obtain ⟨o, ho⟩ : ∃ o, o1 = o := ⟨_, rfl⟩
    have hol := hol1
    have hto := hto1
    rw [ho] at hc hWi hol hto hO
    clear hol0 hto0 hcl
    cases c1 : fewB p
    · rw [c1] at hF
      simp only [go_sem, seval, eq_self, reduceCtorEq, Prg.v, cUc_at, spTrue_mv, spTrue_fn, spFew_mv, hF, spOwners_mv, hO, spSpW_mv, hWi, hto1, hol1, hto, hol, z16, List.replicate, List.length_map]
      repeat' ((first | (refine AG_of ?_ ?_ <;> intro h) | (refine AB_of ?_ ?_ <;> intro h)) <;> simp only [go_sem, seval, eq_self, reduceCtorEq, Prg.v, cUc_at, spTrue_mv, spTrue_fn, spFew_mv, hF, spOwners_mv, hO, spSpW_mv, hWi, hto1, hol1, hto, hol, z16, List.replicate, List.length_map, h])
      refine A_draw_of [6] [6] (by kernel_rfl) ?_
      simp only [go_sem, seval, eq_self, reduceCtorEq, Prg.v, cUc_at, spTrue_mv, spTrue_fn, spFew_mv, hF, spOwners_mv, hO, spSpW_mv, hWi, hto1, hol1, hto, hol, z16, List.replicate, List.length_map]
      repeat' ((first | (refine AG_of ?_ ?_ <;> intro h) | (refine AB_of ?_ ?_ <;> intro h) | (refine A_draw_of [] [] (by kernel_rfl) ?_ <;> have h := mark)) <;> simp only [go_sem, seval, eq_self, reduceCtorEq, Prg.v, cUc_at, spTrue_mv, spTrue_fn, spFew_mv, hF, spOwners_mv, hO, spSpW_mv, hWi, hto1, hol1, hto, hol, z16, List.replicate, List.length_map, h])
      all_goals (first | refine fin_ret ?_ | refine fin_normal ?_)
      all_goals simp only [resOf, Tryz.results4, Tryz.ntmps4, go_sem, seval, eq_self, reduceCtorEq]
    rw [c1] at hF
    have hfit := splitL_fit cr o
    have hoff := split_off (o := o) cr
    have hmost := split_most (p := p) (o := o)
    have hlist : ∀ b ∈ splitL p o, b.a.length ≤ 6000 ∧ b.e.length ≤ 6000 := fun b hb => by
      unfold splitL at hb
      obtain ⟨b0, hb0, rfl⟩ := List.mem_map.1 hb
      obtain ⟨k, hk, rfl⟩ := List.getElem_of_mem hb0
      have hrl := right_len cr
      obtain ⟨s1, s2⟩ := sbAt_cells (o := o) (List.getElem?_eq_getElem hk)
      obtain ⟨_, _, h3, h4⟩ := blk_bd (List.getElem?_eq_getElem hk)
      have l1 := iCells_len aCells_len p.code o (bdAt p k) (bdAt p (k + 1) - bdAt p k)
      have l2 := iCells_len eCells_len p.code o (bdAt p k) (bdAt p (k + 1) - bdAt p k)
      rw [s1, s2]
      omega
    have hcnt : ∀ (k : Nat) (b : SB), (splitL p o)[k]? = some b → balB b = true ∧ cntT b.a 12 = b.a.length ∧ cntT b.e 12 = b.e.length ∧ cntK b.a 5 = cntK b.e 6 ∧ cntK b.a 3 = cntK b.e 7 ∧ cntK b.a 4 = cntK b.e 8 := fun k b hb => by
      obtain ⟨b4, h4, hs⟩ := spl_k4 hb
      rw [← hs]
      exact ⟨bal_split cr o h4, blk_cnt cr o h4⟩
    have hrS : rightS p ⟨splitL p o, o⟩ = true := by unfold rightS; rw [hc, Bool.true_and]; exact decide_eq_true rfl
    obtain ⟨hN1, hN2⟩ := cutL_pos cr
    have hl1 := splitL_len p o
    obtain ⟨BL, hBL⟩ : ∃ BL, splitL p o = BL := ⟨_, rfl⟩
    rw [hBL] at hWi hfit hoff hmost hlist hcnt hrS hl1
    have hR := spRightS_v (splOf_v false BL hol) hfit p
    rw [hrS] at hR
    have hM := spMost_v (splOf_v false BL hol) hfit hoff
    simp only [Prg.v] at hR
    obtain ⟨hfit1, hfit2⟩ := sbsFit_iff hfit
    obtain ⟨mo, hmo⟩ : ∃ m, mostS ⟨BL, o⟩ = m := ⟨_, rfl⟩
    rw [hmo] at hM hmost
    have gm : decide (mo ≤ 3) = true := decide_eq_true hmost
    simp only [go_sem, seval, eq_self, reduceCtorEq, Prg.v, cUc_at, spTrue_mv, spTrue_fn, spFew_mv, hF, spOwners_mv, hO, spSpW_mv, hWi, hto1, hol1, hto, hol, z16, List.replicate, List.length_map]
    repeat' ((first | (refine AG_of ?_ ?_ <;> intro h) | (refine AB_of ?_ ?_ <;> intro h)) <;> simp only [go_sem, seval, eq_self, reduceCtorEq, Prg.v, cUc_at, spTrue_mv, spTrue_fn, spFew_mv, hF, spOwners_mv, hO, spSpW_mv, hWi, hto1, hol1, hto, hol, z16, List.replicate, List.length_map, h])
    refine A_draw_of [6] [6] (by kernel_rfl) ?_
    simp only [go_sem, seval, eq_self, reduceCtorEq, Prg.v, cUc_at, spTrue_mv, spTrue_fn, spFew_mv, hF, spOwners_mv, hO, spSpW_mv, hWi, hto1, hol1, hto, hol, z16, List.replicate, List.length_map]
    repeat' ((first | (refine AG_of ?_ ?_ <;> intro h) | (refine AB_of ?_ ?_ <;> intro h) | (refine A_draw_of [] [] (by kernel_rfl) ?_ <;> have h := mark)) <;> simp only [go_sem, seval, eq_self, reduceCtorEq, Prg.v, cUc_at, spTrue_mv, spTrue_fn, spFew_mv, hF, spOwners_mv, hO, spSpW_mv, hWi, hto1, hol1, hto, hol, z16, List.replicate, List.length_map, h])
    refine A_loop (hoI p o BL) (fun s => BL.length - (numOf (s.env 8)).toNat) ?_ ?_
    · exact ⟨by simp [upd], by simp [upd], by simp [upd], by simp [upd], 0, by simp [upd], by omega⟩
    intro s hs
    obtain ⟨e2, t2, e6, t6, k, e8, hk⟩ := hs
    rcases Nat.lt_or_ge k BL.length with hlt | hge
    · obtain ⟨b, q⟩ : ∃ b, BL[k]? = some b := ⟨BL[k], List.getElem?_eq_getElem hlt⟩
      obtain ⟨la, le⟩ := hlist b (List.mem_of_getElem? q)
      obtain ⟨hb1, hb2, hb3, hb4, hb5, hb6⟩ := hcnt k b q
      have hB := spBal_v (b := b) (by unfold sbLit; simp only [Bool.and_eq_true, decide_eq_true_eq]; omega)
      rw [hb1] at hB
      have hCn := spCounts_v (hfit2 b (List.mem_of_getElem? q))
      have hat : ∀ j : Nat, j < 12 → oAt (cntL b.a ++ cntL b.e) ((j : Nat) : Int) = (cntK b.a ((j + 1 : Nat) : Int) : Int) ∧ oAt (cntL b.a ++ cntL b.e) ((12 + j : Nat) : Int) = (cntK b.e ((j + 1 : Nat) : Int) : Int) := fun j hj => cnt_at b.a b.e hj
      have hCl : (cntL b.a ++ cntL b.e).length = 24 := by rw [List.length_append, cntL_len, cntL_len]
      obtain ⟨C, hC⟩ : ∃ C, cntL b.a ++ cntL b.e = C := ⟨_, rfl⟩
      rw [hC] at hCn hat hCl
      obtain ⟨f1, t1, nx, tk, A, E⟩ := b
      simp only [SB.v] at la le hB hCn hat hb2 hb3 hb4 hb5 hb6
      have g0 : decide ((k : Int) < (BL.length : Int)) = true := by simp; omega
      have z0 := Int.natCast_nonneg k
      have n2 : IntKind.i64.wrap ((k : Int) + 1) = (k + 1 : Nat) := by rw [w_i64 (by omega) (by omega)]; omega
      have hCt := take_iv24 hCl
      simp only [go_sem, seval, eq_self, reduceCtorEq, Prg.v, cUc_at, spTrue_mv, spTrue_fn, spFew_mv, hF, spOwners_mv, hO, spSpW_mv, hWi, hto1, hol1, hto, hol, z16, List.replicate, List.length_map, SB.v, e2, t2, e6, t6, e8, g0, z0, q, spBal_mv, hB, spCounts_mv, hCn, hCl, hCt, Int.toNat_natCast, List.getElem?_map]
      repeat' ((first | (refine AG_of ?_ ?_ <;> intro h) | (refine AB_of ?_ ?_ <;> intro h) | (refine A_draw_of [] [] (by kernel_rfl) ?_ <;> have h := mark)) <;> simp only [go_sem, seval, eq_self, reduceCtorEq, Prg.v, cUc_at, spTrue_mv, spTrue_fn, spFew_mv, hF, spOwners_mv, hO, spSpW_mv, hWi, hto1, hol1, hto, hol, z16, List.replicate, List.length_map, SB.v, e2, t2, e6, t6, e8, g0, z0, q, spBal_mv, hB, spCounts_mv, hCn, hCl, hCt, Int.toNat_natCast, List.getElem?_map, h])
      refine A_loop (hoJ p o BL k C A E) (fun s => 12 - (numOf (s.env 11)).toNat) ?_ ?_
      · exact ⟨by simp [upd, e2], by simp [upd, t2], by simp [upd, e6], by simp [upd, t6], by simp [upd, e8], (s.st 9).ver + 1, 0, by simp [upd], by simp [upd, hCt], by simp [upd], by omega, by simp [upd, cntT_zero]⟩
      have e8O := e8
      clear e2 t2 e6 t6 e8
      intro s2 hs
      obtain ⟨e2, t2, e6, t6, e8, v, j, e9, t9, e11, hj, e10⟩ := hs
      rcases Nat.lt_or_ge j 12 with hjn | hjn
      · have g1 : decide ((j : Int) < 12) = true := by simp; omega
        have zj := Int.natCast_nonneg j
        have hj2 : (j : Int) < 12 := by omega
        have n3 : IntKind.i64.wrap ((j : Int) + 1) = (j + 1 : Nat) := by rw [w_i64 (by omega) (by omega)]; omega
        have d1 := drop_iv (o := C) (k := j) (by omega)
        have d2 := drop_iv (o := C) (k := 12 + j) (by omega)
        obtain ⟨a1, a2⟩ := hat j hjn
        rw [a1] at d1
        rw [a2] at d2
        have u1 := cntT_succ j A
        have u2 := cntT_succ j E
        have u3 := cntT_le A (j + 1)
        have u4 := cntT_le E (j + 1)
        obtain ⟨x1, hx1⟩ : ∃ x, cntK A ((j + 1 : Nat) : Int) = x := ⟨_, rfl⟩
        obtain ⟨x2, hx2⟩ : ∃ x, cntK E ((j + 1 : Nat) : Int) = x := ⟨_, rfl⟩
        rw [hx1] at d1 u1
        rw [hx2] at d2 u2
        have w1 : IntKind.i64.wrap ((cntT A j : Int) + (cntT E j : Int) + (x1 : Int)) = (cntT A j : Int) + (cntT E j : Int) + (x1 : Int) := by rw [w_i64 (by omega) (by omega)]
        have w2 : IntKind.i64.wrap ((cntT A j : Int) + (cntT E j : Int) + (x1 : Int) + (x2 : Int)) = (cntT A (j + 1) : Int) + (cntT E (j + 1) : Int) := by rw [w_i64 (by omega) (by omega)]; omega
        simp only [go_sem, seval, eq_self, reduceCtorEq, e2, t2, e6, t6, e8, e9, t9, e10, e11, g1, zj, hj2, n3, d1, d2, w1, w2, hCl, Int.toNat_natCast, Nat.mul_one, Nat.zero_add, Nat.one_mul, Nat.zero_mul, List.length_map]
        repeat' ((first | (refine AG_of ?_ ?_ <;> intro h) | (refine AB_of ?_ ?_ <;> intro h) | (refine A_draw_of [] [] (by kernel_rfl) ?_ <;> have h := mark)) <;> simp only [go_sem, seval, eq_self, reduceCtorEq, e2, t2, e6, t6, e8, e9, t9, e10, e11, g1, zj, hj2, n3, d1, d2, w1, w2, hCl, Int.toNat_natCast, Nat.mul_one, Nat.zero_add, Nat.one_mul, Nat.zero_mul, List.length_map, h])
        exact ⟨⟨by simp [upd, e2], by simp [upd, t2], by simp [upd, e6], by simp [upd, t6], by simp [upd, e8], v, j + 1, by simp [upd, e9], by simp [upd, t9], by simp [upd], by omega, by simp [upd]⟩, by simp [upd, numOf, e11]; omega⟩
      · have hj12 : j = 12 := by omega
        have g1 : decide ((j : Int) < 12) = false := by simp; omega
        rw [hj12, hb2, hb3] at e10
        have d4 := drop_iv (o := C) (k := 4) (by omega)
        have d17 := drop_iv (o := C) (k := 17) (by omega)
        have d2 := drop_iv (o := C) (k := 2) (by omega)
        have d18 := drop_iv (o := C) (k := 18) (by omega)
        have d3 := drop_iv (o := C) (k := 3) (by omega)
        have d19 := drop_iv (o := C) (k := 19) (by omega)
        have a4 : oAt C ((4 : Nat) : Int) = (cntK A 5 : Int) := (hat 4 (by omega)).1
        have a17 : oAt C ((17 : Nat) : Int) = (cntK E 6 : Int) := (hat 5 (by omega)).2
        have a2 : oAt C ((2 : Nat) : Int) = (cntK A 3 : Int) := (hat 2 (by omega)).1
        have a18 : oAt C ((18 : Nat) : Int) = (cntK E 7 : Int) := (hat 6 (by omega)).2
        have a3 : oAt C ((3 : Nat) : Int) = (cntK A 4 : Int) := (hat 3 (by omega)).1
        have a19 : oAt C ((19 : Nat) : Int) = (cntK E 8 : Int) := (hat 7 (by omega)).2
        rw [a4] at d4
        rw [a17, ← hb4] at d17
        rw [a2] at d2
        rw [a18, ← hb5] at d18
        rw [a3] at d3
        rw [a19, ← hb6] at d19
        have ws : IntKind.i64.wrap ((A.length : Int) + (E.length : Int)) = (A.length : Int) + (E.length : Int) := by rw [w_i64 (by omega) (by omega)]
        have bne : ∀ x : Int, (x != x) = false := fun x => by simp
        simp only [go_sem, seval, eq_self, reduceCtorEq, e2, t2, e6, t6, e8, e9, t9, e10, e11, g1, z0, g0, q, ws, bne, d4, d17, d2, d18, d3, d19, hCl, SB.v, Int.toNat_natCast, Nat.mul_one, Nat.zero_add, Nat.one_mul, Nat.zero_mul, List.length_map, List.getElem?_map, n2]
        repeat' ((first | (refine AG_of ?_ ?_ <;> intro h) | (refine AB_of ?_ ?_ <;> intro h) | (refine A_draw_of [] [] (by kernel_rfl) ?_ <;> have h := mark)) <;> simp only [go_sem, seval, eq_self, reduceCtorEq, e2, t2, e6, t6, e8, e9, t9, e10, e11, g1, z0, g0, q, ws, bne, d4, d17, d2, d18, d3, d19, hCl, SB.v, Int.toNat_natCast, Nat.mul_one, Nat.zero_add, Nat.one_mul, Nat.zero_mul, List.length_map, List.getElem?_map, n2, h])
        exact ⟨⟨by simp [upd, e2], by simp [upd, t2], by simp [upd, e6], by simp [upd, t6], k + 1, by simp [upd], by omega⟩, by simp [upd, numOf, e8O]; omega⟩
    · have hkl : k = BL.length := by omega
      have g0 : decide ((k : Int) < (BL.length : Int)) = false := by simp; omega
      simp only [go_sem, seval, eq_self, reduceCtorEq, Prg.v, cUc_at, spTrue_mv, spTrue_fn, spFew_mv, hF, spOwners_mv, hO, spSpW_mv, hWi, hto1, hol1, hto, hol, z16, List.replicate, List.length_map, e2, t2, e6, t6, e8, g0, spRightS_mv, hR, spMost_mv, hM, gm]
      repeat' ((first | (refine AG_of ?_ ?_ <;> intro h) | (refine AB_of ?_ ?_ <;> intro h) | (refine A_draw_of [] [] (by kernel_rfl) ?_ <;> have h := mark)) <;> simp only [go_sem, seval, eq_self, reduceCtorEq, Prg.v, cUc_at, spTrue_mv, spTrue_fn, spFew_mv, hF, spOwners_mv, hO, spSpW_mv, hWi, hto1, hol1, hto, hol, z16, List.replicate, List.length_map, e2, t2, e6, t6, e8, g0, spRightS_mv, hR, spMost_mv, hM, gm, h])
      all_goals (first | refine fin_ret ?_ | refine fin_normal ?_)
      all_goals simp only [resOf, Tryz.results4, Tryz.ntmps4, go_sem, seval, eq_self, reduceCtorEq]
theorem cho_ok {x : V} {n : Int} (h : ∃ p, prgOf x = some p ∧ p.data.all byte = true ∧ (∀ i ∈ p.code, WfI i) ∧ p.code.length ≤ maxLen ∧ p.data.length ≤ maxLen) : spCHo.fn [x, .s (.int .i64 n)] = some (.s (.bool true)) := by
  obtain ⟨p, hp, _⟩ := h
  simp only [spCHo, hp, Option.bind_some]

end Go.Proofs.YtkfmecmmbnehjaaGreat
