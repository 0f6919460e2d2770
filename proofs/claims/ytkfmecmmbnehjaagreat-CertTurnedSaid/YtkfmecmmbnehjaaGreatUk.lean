/-
CertTurned by the plain reckoning. No condition.
-/
import Derived.Test.YtkfmecmmbnehjaaGreatUh
/-
Each block of a split is balanced: the plain law. No condition.
-/
namespace Go.Proofs.YtkfmecmmbnehjaaGreat
set_option linter.unusedSimpArgs false
set_option linter.unusedVariables false

theorem ofK_app (k : Int) (a b : List Cell) : ofK k (a ++ b) = ofK k a ++ ofK k b := List.filter_append ..
theorem ofK_mapR (k j : Int) (l : List Int) (pc off : Int) : ofK k (l.map fun r => cR j r pc off) = if j = k then l.map fun r => cR j r pc off else [] := by
  unfold ofK
  split
  · rename_i h
    rw [List.filter_eq_self]
    intro c hc
    obtain ⟨r, _, rfl⟩ := List.mem_map.1 hc
    simp [cR, h]
  · rename_i h
    rw [List.filter_eq_nil_iff]
    intro c hc
    obtain ⟨r, _, rfl⟩ := List.mem_map.1 hc
    simp [cR, h]
theorem ofK_I (k j : Int) (i : Ins) (pc off : Int) : ofK k [cI j i pc off] = if j = k then [cI j i pc off] else [] := by
  unfold ofK
  by_cases h : j = k <;> simp [cI, h]
theorem ofK_R (k j r pc off : Int) : ofK k [cR j r pc off] = if j = k then [cR j r pc off] else [] := by
  unfold ofK
  by_cases h : j = k <;> simp [cR, h]
theorem ofK_B (k j pc off : Int) : ofK k [cB j pc off] = if j = k then [cB j pc off] else [] := by
  unfold ofK
  by_cases h : j = k <;> simp [cB, h]
theorem ofK_2 (k : Int) (c d : Cell) : ofK k [c, d] = ofK k [c] ++ ofK k [d] := ofK_app k [c] [d]
theorem ofK_nil (k : Int) : ofK k [] = [] := rfl
theorem cI_ins (k : Int) (i : Ins) (pc off : Int) : (cI k i pc off).ins = i := rfl
theorem cR_reg (k r pc off : Int) : (cR k r pc off).reg = r := rfl
theorem allP_sent (l : List Int) (pc off : Int) : allP sameReg (l.map fun r => cR 5 r pc off) (l.map fun r => cR 6 r pc off) = true := by
  induction l with
  | nil => rfl
  | cons r l ih => rw [List.map_cons, List.map_cons, allP, ih]; simp [sameReg, cR]
theorem allP_app {P : Cell → Cell → Bool} : ∀ {a c : List Cell} (b d : List Cell), allP P a c = true → allP P b d = true → allP P (a ++ b) (c ++ d) = true
  | [], [], b, d, _, h => h
  | [], _ :: _, b, d, h, _ => by cases h
  | _ :: _, [], b, d, h, _ => by cases h
  | x :: a, y :: c, b, d, h, k => by
    rw [allP, Bool.and_eq_true] at h
    rw [List.cons_append, List.cons_append, allP, h.1, allP_app b d h.2 k]; rfl
/-- one instruction's cells fit -/
theorem fitI {i : Ins} (h : rightB i = true) (o : List Int) (pc off : Int) : allP sameReg (ofK 5 (aCells i o pc off)) (ofK 6 (eCells i o pc off)) = true ∧ allP sameIns (ofK 3 (aCells i o pc off)) (ofK 7 (eCells i o pc off)) = true ∧ (ofK 4 (aCells i o pc off)).length = (ofK 8 (eCells i o pc off)).length := by
  have hs := allP_sent (sentL i o) pc off
  unfold aCells eCells
  rw [if_pos h, if_pos h]
  (repeat' split) <;> simp [ofK_app, ofK_mapR, ofK_I, ofK_R, ofK_B, ofK_2, ofK_nil, allP, sameReg, sameIns, hs, cR_reg, cI_ins]
theorem allP_some {P : Cell → Cell → Bool} {a b : List Cell} (h : allP P a b = true) : a.length = b.length := by
  refine Classical.byContradiction fun hne => ?_
  rw [allP_len hne] at h
  cases h
/-- what stands ahead of the control cell, and it -/
structure Tl (m : List Int) (l pre tail : List Cell) : Prop where
  eq : l = pre ++ tail
  no : ∀ c ∈ pre, ctlB c.kind = false ∧ 0 ≤ idxL c.kind m 0
theorem idx5 {k : Int} (h : 1 ≤ k ∧ k ≤ 5) : ctlB k = false ∧ 0 ≤ idxL k [1, 2, 3, 4, 5] 0 := by
  rcases (show k = 1 ∨ k = 2 ∨ k = 3 ∨ k = 4 ∨ k = 5 by omega) with rfl | rfl | rfl | rfl | rfl <;> decide
theorem idx4 {k : Int} (h : k = 1 ∨ k = 6 ∨ k = 7 ∨ k = 8) : ctlB k = false ∧ 0 ≤ idxL k [1, 6, 7, 8] 0 := by
  rcases h with rfl | rfl | rfl | rfl <;> decide
def tailA (i : Ins) (o : List Int) (pc off : Int) : List Cell :=
  if form i.op = 6 then (if onEB i o = true then [cB 10 pc off] else [cI 9 i pc off]) else if form i.op = 7 then [cB 11 pc off] else if form i.op = 8 then [cB 12 pc off] else []
def tailE (i : Ins) (o : List Int) (pc off : Int) : List Cell :=
  if form i.op = 6 then (if onEB i o = true then [cI 9 i pc off] else [cB 10 pc off]) else if form i.op = 7 then [cB 11 pc off] else if form i.op = 8 then [cB 12 pc off] else []
theorem tlA {i : Ins} (h : rightB i = true) (o : List Int) (pc off : Int) : ∃ pre, Tl [1, 2, 3, 4, 5] (aCells i o pc off) pre (tailA i o pc off) := by
  have mk : ∀ (pre tail : List Cell), (∀ c ∈ pre, 1 ≤ c.kind ∧ c.kind ≤ 5) → ∃ pre', Tl [1, 2, 3, 4, 5] (pre ++ tail) pre' tail := fun pre tail hp => ⟨pre, rfl, fun c hc => idx5 (hp c hc)⟩
  have sent : ∀ c ∈ (sentL i o).map (fun r => cR 5 r pc off), 1 ≤ c.kind ∧ c.kind ≤ 5 := fun c hc => by
    obtain ⟨r, _, rfl⟩ := List.mem_map.1 hc
    simp [cR]
  have hf := form_cases h
  unfold aCells tailA
  rw [if_pos h]
  rcases hf with hf | hf | hf | hf | hf | hf | hf | hf <;> simp only [hf] <;> simp
  all_goals (repeat' split)
  all_goals first
    | (have := mk [cI 1 i pc off] [] (by simp [cI]); simpa using this)
    | (have := mk [cI 2 i pc off] [] (by simp [cI]); simpa using this)
    | (have := mk [cI 3 i pc off] [] (by simp [cI]); simpa using this)
    | (have := mk [cI 4 i pc off] [] (by simp [cI]); simpa using this)
    | (have := mk [cR 5 i.b pc off, cI 4 i pc off] [] (by simp [cI, cR]); simpa using this)
    | (have := mk _ [] sent; simpa using this)
    | (have := mk _ [cB 10 pc off] sent; simpa using this)
    | (have := mk [] [cI 9 i pc off] (by simp); simpa using this)
    | (have := mk [] [cB 11 pc off] (by simp); simpa using this)
    | (have := mk [] [cB 12 pc off] (by simp); simpa using this)
theorem tlE {i : Ins} (h : rightB i = true) (o : List Int) (pc off : Int) : ∃ pre, Tl [1, 6, 7, 8] (eCells i o pc off) pre (tailE i o pc off) := by
  have mk : ∀ (pre tail : List Cell), (∀ c ∈ pre, c.kind = 1 ∨ c.kind = 6 ∨ c.kind = 7 ∨ c.kind = 8) → ∃ pre', Tl [1, 6, 7, 8] (pre ++ tail) pre' tail := fun pre tail hp => ⟨pre, rfl, fun c hc => idx4 (hp c hc)⟩
  have sent : ∀ c ∈ (sentL i o).map (fun r => cR 6 r pc off), c.kind = 1 ∨ c.kind = 6 ∨ c.kind = 7 ∨ c.kind = 8 := fun c hc => by
    obtain ⟨r, _, rfl⟩ := List.mem_map.1 hc
    simp [cR]
  have sent1 : ∀ c ∈ (sentL i o).map (fun r => cR 6 r pc off) ++ [cI 1 i pc off], c.kind = 1 ∨ c.kind = 6 ∨ c.kind = 7 ∨ c.kind = 8 := fun c hc => by
    rcases List.mem_append.1 hc with hc | hc
    · exact sent c hc
    · simp at hc; subst hc; simp [cI]
  have hf := form_cases h
  unfold eCells tailE
  rw [if_pos h]
  rcases hf with hf | hf | hf | hf | hf | hf | hf | hf <;> simp only [hf] <;> simp
  all_goals (repeat' split)
  all_goals first
    | (have := mk [] [] (by simp); simpa using this)
    | (have := mk [cI 7 i pc off] [] (by simp [cI]); simpa using this)
    | (have := mk [cR 8 i.b pc off] [] (by simp [cR]); simpa using this)
    | (have := mk [cR 6 i.b pc off, cR 8 i.b pc off] [] (by simp [cR]); simpa using this)
    | (have := mk _ [] sent1; simpa using this)
    | (have := mk _ [cI 9 i pc off] sent; simpa using this)
    | (have := mk [] [cB 10 pc off] (by simp); simpa using this)
    | (have := mk [] [cB 11 pc off] (by simp); simpa using this)
    | (have := mk [] [cB 12 pc off] (by simp); simpa using this)
theorem kinds_tl {m : List Int} {l pre tail : List Cell} (h : Tl m l pre tail) (ht : tail = [] ∨ ∃ c, tail = [c] ∧ ctlB c.kind = true) : kindsB l m = true := by
  refine kindsB_yes fun i hi c hc => ?_
  rw [h.eq] at hi hc ⊢
  unfold kOk
  rcases Nat.lt_or_ge i pre.length with hlt | hge
  · rw [List.getElem?_append_left hlt] at hc
    obtain ⟨h1, h2⟩ := h.no c (List.mem_of_getElem? hc)
    rw [h1, if_neg (by simp)]
    simpa using h2
  · rw [List.getElem?_append_right hge] at hc
    rcases ht with rfl | ⟨d, rfl, hd⟩
    · simp at hc
    · have hi0 : i - pre.length = 0 := by
        simp only [List.length_append, List.length_singleton] at hi
        omega
      rw [hi0] at hc
      simp at hc
      subst hc
      rw [hd, if_pos rfl]
      simp only [List.length_append, List.length_singleton, Bool.not_eq_true', decide_eq_false_iff_not]
      omega
theorem last_tl {m : List Int} {l pre tail : List Cell} (h : Tl m l pre tail) : (tail = [] → lastK l = 0) ∧ ∀ c, tail = [c] → ctlB c.kind = true → lastK l = c.kind := by
  constructor
  · rintro rfl
    rw [h.eq, List.append_nil]
    unfold lastK
    cases hl : pre.getLast? with
    | none => rfl
    | some c =>
      have := (h.no c (List.mem_of_getLast? hl)).1
      simp only [this, Bool.false_eq_true, if_false]
  · rintro c rfl hc
    rw [h.eq]
    unfold lastK
    rw [List.getLast?_append]
    simp [hc]
/-- all but the last instruction have no control cell -/
theorem iTl {f : Ins → List Int → Int → Int → List Cell} {t : Ins → List Int → Int → Int → List Cell} {m : List Int} (hf : ∀ {i : Ins}, rightB i = true → ∀ (o : List Int) (pc off : Int), ∃ pre, Tl m (f i o pc off) pre (t i o pc off)) (h0 : ∀ (i : Ins) (o : List Int) (pc off : Int), form i.op < 6 → t i o pc off = []) {code : List Ins} {o : List Int} {F : Nat} : ∀ n : Nat, (∀ j, j < n → ∀ i, code[F + j]? = some i → rightB i = true ∧ form i.op < 6) → ∃ pre, Tl m (iCells f code o F n) pre []
  | 0, _ => ⟨[], rfl, fun c hc => by cases hc⟩
  | n + 1, h => by
    obtain ⟨pre, hp⟩ := iTl hf h0 n fun j hj => h j (by omega)
    cases hc : code[F + n]? with
    | none =>
      have e : iCells f code o F (n + 1) = iCells f code o F n := by
        unfold iCells
        rw [List.range_succ, List.flatMap_append]
        simp [hc]
      rw [e]
      exact ⟨pre, hp⟩
    | some i =>
      obtain ⟨hr, hlt⟩ := h n (by omega) i hc
      obtain ⟨q, hq⟩ := hf hr o ((F + n : Nat) : Int) (n : Int)
      have ht := h0 i o ((F + n : Nat) : Int) (n : Int) hlt
      rw [ht] at hq
      rw [iCells_succ f o hc]
      refine ⟨pre ++ q, by rw [hp.eq, hq.eq]; simp, fun c hc => ?_⟩
      rcases List.mem_append.1 hc with hc | hc
      · exact hp.no c hc
      · exact hq.no c hc
theorem iFit {code : List Ins} {o : List Int} {F : Nat} : ∀ n : Nat, (∀ j, j < n → ∀ i, code[F + j]? = some i → rightB i = true) → allP sameReg (ofK 5 (iCells aCells code o F n)) (ofK 6 (iCells eCells code o F n)) = true ∧ allP sameIns (ofK 3 (iCells aCells code o F n)) (ofK 7 (iCells eCells code o F n)) = true ∧ (ofK 4 (iCells aCells code o F n)).length = (ofK 8 (iCells eCells code o F n)).length
  | 0, _ => ⟨rfl, rfl, rfl⟩
  | n + 1, h => by
    obtain ⟨i1, i2, i3⟩ := iFit (o := o) n fun j hj => h j (by omega)
    cases hc : code[F + n]? with
    | none =>
      have e : ∀ f, iCells f code o F (n + 1) = iCells f code o F n := fun f => by
        unfold iCells
        rw [List.range_succ, List.flatMap_append]
        simp [hc]
      rw [e, e]
      exact ⟨i1, i2, i3⟩
    | some i =>
      obtain ⟨k1, k2, k3⟩ := fitI (h n (by omega) i hc) o ((F + n : Nat) : Int) (n : Int)
      rw [iCells_succ aCells o hc, iCells_succ eCells o hc]
      simp only [ofK_app]
      exact ⟨allP_app _ _ i1 k1, allP_app _ _ i2 k2, by rw [List.length_append, List.length_append, i3, k3]⟩
theorem tail0A (i : Ins) (o : List Int) (pc off : Int) (h : form i.op < 6) : tailA i o pc off = [] := by
  unfold tailA
  rw [if_neg (by omega), if_neg (by omega), if_neg (by omega)]
theorem tail0E (i : Ins) (o : List Int) (pc off : Int) (h : form i.op < 6) : tailE i o pc off = [] := by
  unfold tailE
  rw [if_neg (by omega), if_neg (by omega), if_neg (by omega)]
theorem tails (i : Ins) (o : List Int) (pc off : Int) : (tailA i o pc off = [] ∧ tailE i o pc off = []) ∨ ∃ c d, tailA i o pc off = [c] ∧ tailE i o pc off = [d] ∧ ctlB c.kind = true ∧ ctlB d.kind = true ∧ ((c.kind = 9 ∧ d.kind = 10) ∨ (c.kind = 10 ∧ d.kind = 9) ∨ (c.kind = d.kind ∧ c.kind ≠ 9 ∧ c.kind ≠ 10)) := by
  unfold tailA tailE
  (repeat' split) <;> first
    | exact .inl ⟨rfl, rfl⟩
    | exact .inr ⟨_, _, rfl, rfl, by decide, by decide, by decide⟩
    | (refine .inr ⟨_, _, rfl, rfl, rfl, rfl, ?_⟩; simp [cI, cB])
/-- the shape of a block's cells -/
theorem blk_tl {p : Prg} (hr : rightP p = true) (o : List Int) {k : Nat} {b : Blk4} (h : (cutL p)[k]? = some b) : ∃ pa pe ta te, Tl [1, 2, 3, 4, 5] (sbAt p o b).a pa ta ∧ Tl [1, 6, 7, 8] (sbAt p o b).e pe te ∧
    ((ta = [] ∧ te = []) ∨ ∃ c d, ta = [c] ∧ te = [d] ∧ ctlB c.kind = true ∧ ctlB d.kind = true ∧ ((c.kind = 9 ∧ d.kind = 10) ∨ (c.kind = 10 ∧ d.kind = 9) ∨ (c.kind = d.kind ∧ c.kind ≠ 9 ∧ c.kind ≠ 10))) := by
  obtain ⟨s1, s2⟩ := sbAt_cells (o := o) h
  obtain ⟨b1, b2, b3, b4⟩ := blk_bd h
  have hk : k < (leadL p).length := by
    have := (List.getElem?_eq_some_iff.1 h).1
    rw [cutL_leads] at this; exact this
  have hblk := cut_at hk
  rw [hblk] at h
  cases h
  rw [s1, s2]
  obtain ⟨n, hn⟩ : ∃ n, bdAt p (k + 1) = bdAt p k + n + 1 := ⟨bdAt p (k + 1) - bdAt p k - 1, by omega⟩
  rw [show bdAt p (k + 1) - bdAt p k = n + 1 by omega]
  have hto : toAt p (leadL p) k = ((bdAt p k + n + 1 : Nat) : Int) := by rw [← hn, ← b2]; rfl
  have hlow : ∀ j, j < n → ∀ i, p.code[bdAt p k + j]? = some i → rightB i = true ∧ form i.op < 6 := fun j hj i hi => by
    refine ⟨(right_at hr hi).1, ?_⟩
    exact (in_block hr (List.getElem?_eq_getElem hk) (by rw [← blk_from (List.getElem?_eq_getElem hk), b1]; omega) (by rw [hto]; omega) hi).1
  obtain ⟨x, hx⟩ : ∃ x, p.code[bdAt p k + n]? = some x := ⟨p.code[bdAt p k + n]'(by omega), List.getElem?_eq_getElem (by omega)⟩
  have hxr := (right_at hr hx).1
  obtain ⟨pa, ha⟩ := iTl (f := aCells) (t := tailA) (m := [1, 2, 3, 4, 5]) tlA tail0A (code := p.code) (o := o) (F := bdAt p k) n hlow
  obtain ⟨pe, he⟩ := iTl (f := eCells) (t := tailE) (m := [1, 6, 7, 8]) tlE tail0E (code := p.code) (o := o) (F := bdAt p k) n hlow
  obtain ⟨qa, hqa⟩ := tlA hxr o ((bdAt p k + n : Nat) : Int) (n : Int)
  obtain ⟨qe, hqe⟩ := tlE hxr o ((bdAt p k + n : Nat) : Int) (n : Int)
  rw [iCells_succ aCells o hx, iCells_succ eCells o hx]
  refine ⟨pa ++ qa, pe ++ qe, tailA x o ((bdAt p k + n : Nat) : Int) (n : Int), tailE x o ((bdAt p k + n : Nat) : Int) (n : Int), ⟨by rw [ha.eq, hqa.eq, List.append_nil, List.append_assoc], fun c hc => ?_⟩, ⟨by rw [he.eq, hqe.eq, List.append_nil, List.append_assoc], fun c hc => ?_⟩, tails x o _ _⟩
  · rcases List.mem_append.1 hc with hc | hc
    · exact ha.no c hc
    · exact hqa.no c hc
  · rcases List.mem_append.1 hc with hc | hc
    · exact he.no c hc
    · exact hqe.no c hc
theorem blk_fit {p : Prg} (hr : rightP p = true) (o : List Int) {k : Nat} {b : Blk4} (h : (cutL p)[k]? = some b) : allP sameReg (ofK 5 (sbAt p o b).a) (ofK 6 (sbAt p o b).e) = true ∧ allP sameIns (ofK 3 (sbAt p o b).a) (ofK 7 (sbAt p o b).e) = true ∧ (ofK 4 (sbAt p o b).a).length = (ofK 8 (sbAt p o b).e).length := by
  obtain ⟨s1, s2⟩ := sbAt_cells (o := o) h
  rw [s1, s2]
  exact iFit _ fun j _ i hi => (right_at hr hi).1
/-- each block of a split is balanced -/
theorem bal_split {p : Prg} (hr : rightP p = true) (o : List Int) {k : Nat} {b : Blk4} (h : (cutL p)[k]? = some b) : balB (sbAt p o b) = true := by
  obtain ⟨pa, pe, ta, te, h1, h2, h3⟩ := blk_tl hr o h
  obtain ⟨f1, f2, f3⟩ := blk_fit hr o h
  obtain ⟨l1, l2⟩ := last_tl h1
  obtain ⟨l3, l4⟩ := last_tl h2
  have k1 : kindsB (sbAt p o b).a [1, 2, 3, 4, 5] = true := kinds_tl h1 (by
    rcases h3 with ⟨h, _⟩ | ⟨c, d, hc, _, hcc, _⟩
    · exact .inl h
    · exact .inr ⟨c, hc, hcc⟩)
  have k2 : kindsB (sbAt p o b).e [1, 6, 7, 8] = true := kinds_tl h2 (by
    rcases h3 with ⟨_, h⟩ | ⟨c, d, _, hd, _, hdd, _⟩
    · exact .inl h
    · exact .inr ⟨d, hd, hdd⟩)
  have k3 : endsB (sbAt p o b).a (sbAt p o b).e = true := by
    unfold endsB
    rcases h3 with ⟨ha, he⟩ | ⟨c, d, hc, hd, hcc, hdd, hk⟩
    · rw [l1 ha, l3 he]; decide
    · rw [l2 c hc hcc, l4 d hd hdd]
      rcases hk with ⟨e1, e2⟩ | ⟨e1, e2⟩ | ⟨e1, e2, e3⟩
      · rw [e1, e2]; decide
      · rw [e1, e2]; decide
      · rw [if_neg e2, if_neg e3, e1]; simp
  unfold balB
  rw [k1, k2, k3, f1, f2, f3]
  simp

end Go.Proofs.YtkfmecmmbnehjaaGreat
/-
A block of a split that lacks a cell that joins both sides is balanced no more: the plain law. No condition.
-/
namespace Go.Proofs.YtkfmecmmbnehjaaGreat
set_option linter.unusedSimpArgs false
set_option linter.unusedVariables false

theorem i64_and3 (n : Int) : bits .and .i64 n 3 = n % 4 := by
  have h3 : (BitVec.ofInt 64 3).toNat = 2 ^ 2 - 1 := by decide
  have key : (BitVec.ofInt 64 n &&& BitVec.ofInt 64 3).toNat = (n % ((2 ^ 64 : Nat) : Int)).toNat % 2 ^ 2 := by
    rw [BitVec.toNat_and, BitVec.toNat_ofInt, h3, Nat.and_two_pow_sub_one_eq_mod]
  show IntKind.i64.wrap ((BitVec.ofInt 64 n &&& BitVec.ofInt 64 3).toNat : Nat) = n % 4
  rw [key, IntKind.wrap_i64]
  omega
theorem ofK_gone {l : List Cell} {i : Nat} {c : Cell} (h : l[i]? = some c) : (ofK c.kind (l.take i ++ l.drop (i + 1))).length + 1 = (ofK c.kind l).length := by
  have e : l.take i ++ ([c] ++ l.drop (i + 1)) = l := by
    obtain ⟨hi, rfl⟩ := List.getElem?_eq_some_iff.1 h
    rw [List.singleton_append, ← List.drop_eq_getElem_cons hi, List.take_append_drop]
  have e2 := congrArg (fun m => (ofK c.kind m).length) e
  simp only [ofK_app, List.length_append] at e2 ⊢
  have : (ofK c.kind [c]).length = 1 := by simp [ofK]
  omega
theorem kinds_in {a : List Cell} {m : List Int} (h : kindsB a m = true) {i : Nat} {c : Cell} (hc : a[i]? = some c) (hn : ctlB c.kind = false) : 0 ≤ idxL c.kind m 0 := by
  refine Classical.byContradiction fun hne => ?_
  rw [kindsB_no hc (by unfold kOk; rw [hn]; simpa using hne)] at h
  cases h
theorem idx5_in {k : Int} (h : 0 ≤ idxL k [1, 2, 3, 4, 5] 0) : 1 ≤ k ∧ k ≤ 5 := by
  refine Classical.byContradiction fun hne => ?_
  have : idxL k [1, 2, 3, 4, 5] 0 = -1 := by
    simp only [idxL, beq_iff_eq]
    rw [if_neg (by omega), if_neg (by omega), if_neg (by omega), if_neg (by omega), if_neg (by omega)]
  omega
theorem idx4_in {k : Int} (h : 0 ≤ idxL k [1, 6, 7, 8] 0) : k = 1 ∨ k = 6 ∨ k = 7 ∨ k = 8 := by
  refine Classical.byContradiction fun hne => ?_
  have : idxL k [1, 6, 7, 8] 0 = -1 := by
    simp only [idxL, beq_iff_eq]
    rw [if_neg (by omega), if_neg (by omega), if_neg (by omega), if_neg (by omega)]
  omega
theorem tl_ctl {m : List Int} {l pre tail : List Cell} (h : Tl m l pre tail) (ht : tail = [] ∨ ∃ d, tail = [d]) {i : Nat} {c : Cell} (hc : l[i]? = some c) (hk : ctlB c.kind = true) : tail = [c] ∧ Tl m (l.take i ++ l.drop (i + 1)) pre [] := by
  have e := h.eq
  subst e
  rcases Nat.lt_or_ge i pre.length with hlt | hge
  · rw [List.getElem?_append_left hlt] at hc
    have := (h.no c (List.mem_of_getElem? hc)).1
    rw [hk] at this; cases this
  · rw [List.getElem?_append_right hge] at hc
    rcases ht with rfl | ⟨d, rfl⟩
    · simp at hc
    · have hi0 : i = pre.length := by
        have := (List.getElem?_eq_some_iff.1 hc).1
        simp at this
        omega
      subst hi0
      simp at hc
      subst hc
      refine ⟨rfl, ⟨?_, h.no⟩⟩
      rw [List.take_left, List.drop_eq_nil_of_le (by simp)]
theorem gone_a {p : Prg} (hr : rightP p = true) (o : List Int) {k : Nat} {b : Blk4} (h : (cutL p)[k]? = some b) {i : Nat} {c : Cell} (hc : (sbAt p o b).a[i]? = some c) (h1 : c.kind ≠ 1) (h2 : c.kind ≠ 2) {X : SB} (ha : X.a = (sbAt p o b).a.take i ++ (sbAt p o b).a.drop (i + 1)) (he : X.e = (sbAt p o b).e) : balB X = false := by
  cases hk : ctlB c.kind
  · have bal := bal_split hr o h
    unfold balB at bal
    simp only [Bool.and_eq_true] at bal
    obtain ⟨⟨⟨⟨⟨k1, k2⟩, _⟩, q1⟩, q2⟩, q3⟩ := bal
    have r := idx5_in (kinds_in k1 hc hk)
    have g := ofK_gone hc
    have n5 := allP_some q1
    have n3 := allP_some q2
    have n4 : (ofK 4 (sbAt p o b).a).length = (ofK 8 (sbAt p o b).e).length := by simpa using q3
    unfold balB
    rw [ha, he]
    rcases (show c.kind = 3 ∨ c.kind = 4 ∨ c.kind = 5 by omega) with e | e | e <;> rw [e] at g
    · rw [allP_len (P := sameIns) (by omega)]; simp
    · have : ((ofK 4 ((sbAt p o b).a.take i ++ (sbAt p o b).a.drop (i + 1))).length == (ofK 8 (sbAt p o b).e).length) = false := by
        rw [beq_eq_false_iff_ne]; omega
      rw [this]; simp
    · rw [allP_len (P := sameReg) (by omega)]; simp
  · obtain ⟨pa, pe, ta, te, t1, t2, t3⟩ := blk_tl hr o h
    have ht : ta = [] ∨ ∃ d, ta = [d] := by
      rcases t3 with ⟨h, _⟩ | ⟨c', _, h, _⟩
      · exact .inl h
      · exact .inr ⟨c', h⟩
    obtain ⟨u1, u2⟩ := tl_ctl t1 ht hc hk
    rcases t3 with ⟨ta0, _⟩ | ⟨c', d, hc', hd, hcc, hdd, hrel⟩
    · rw [ta0] at u1; cases u1
    have l1 := (last_tl u2).1 rfl
    have l2 := (last_tl t2).2 d hd hdd
    have hb : endsB X.a X.e = false := by
      unfold endsB
      rw [ha, he, l1, l2]
      unfold ctlB at hdd
      simp only [Bool.and_eq_true, decide_eq_true_eq] at hdd
      rw [if_neg (by omega), if_neg (by omega), beq_eq_false_iff_ne]
      omega
    unfold balB
    rw [hb]; simp
theorem gone_e {p : Prg} (hr : rightP p = true) (o : List Int) {k : Nat} {b : Blk4} (h : (cutL p)[k]? = some b) {i : Nat} {c : Cell} (hc : (sbAt p o b).e[i]? = some c) (h1 : c.kind ≠ 1) {X : SB} (ha : X.a = (sbAt p o b).a) (he : X.e = (sbAt p o b).e.take i ++ (sbAt p o b).e.drop (i + 1)) : balB X = false := by
  cases hk : ctlB c.kind
  · have bal := bal_split hr o h
    unfold balB at bal
    simp only [Bool.and_eq_true] at bal
    obtain ⟨⟨⟨⟨⟨k1, k2⟩, _⟩, q1⟩, q2⟩, q3⟩ := bal
    have r := idx4_in (kinds_in k2 hc hk)
    have g := ofK_gone hc
    have n5 := allP_some q1
    have n3 := allP_some q2
    have n4 : (ofK 4 (sbAt p o b).a).length = (ofK 8 (sbAt p o b).e).length := by simpa using q3
    unfold balB
    rw [ha, he]
    rcases (show c.kind = 6 ∨ c.kind = 7 ∨ c.kind = 8 by omega) with e | e | e <;> rw [e] at g
    · rw [allP_len (P := sameReg) (by omega)]; simp
    · rw [allP_len (P := sameIns) (by omega)]; simp
    · have : ((ofK 4 (sbAt p o b).a).length == (ofK 8 ((sbAt p o b).e.take i ++ (sbAt p o b).e.drop (i + 1))).length) = false := by
        rw [beq_eq_false_iff_ne]; omega
      rw [this]; simp
  · obtain ⟨pa, pe, ta, te, t1, t2, t3⟩ := blk_tl hr o h
    have ht : te = [] ∨ ∃ d, te = [d] := by
      rcases t3 with ⟨_, h⟩ | ⟨_, c', _, h, _⟩
      · exact .inl h
      · exact .inr ⟨c', h⟩
    obtain ⟨u1, u2⟩ := tl_ctl t2 ht hc hk
    rcases t3 with ⟨_, te0⟩ | ⟨c', d, hc', hd, hcc, hdd, hrel⟩
    · rw [te0] at u1; cases u1
    have l1 := (last_tl u2).1 rfl
    have l2 := (last_tl t1).2 c' hc' hcc
    have hb : endsB X.a X.e = false := by
      unfold endsB
      rw [ha, he, l1, l2]
      unfold ctlB at hcc
      simp only [Bool.and_eq_true, decide_eq_true_eq] at hcc
      split
      · decide
      · split
        · decide
        · rw [beq_eq_false_iff_ne]; omega
    unfold balB
    rw [hb]; simp
/-- a split has at place k what the block at place k is -/
theorem spl_k4 {p : Prg} {o : List Int} {k : Nat} {b : SB} (h : (splitL p o)[k]? = some b) : ∃ b4, (cutL p)[k]? = some b4 ∧ sbAt p o b4 = b := by
  unfold splitL at h
  rw [List.getElem?_map] at h
  obtain ⟨b4, h1, h2⟩ := Option.map_eq_some_iff.1 h
  exact ⟨b4, h1, h2⟩

end Go.Proofs.YtkfmecmmbnehjaaGreat
namespace Go.Proofs.YtkfmecmmbnehjaaGreat
set_option linter.unusedSimpArgs false
set_option linter.unusedVariables false

theorem take_ne {α : Type} {l : List α} {i : Nat} (h : i < l.length) : l.take i ++ l.drop (i + 1) ≠ l := fun e => by
  have := congrArg List.length e
  rw [List.length_append, List.length_take, List.length_drop] at this
  omega
theorem twice_ne {α : Type} {l : List α} {i : Nat} {u : α} (h : i < l.length) : l.take i ++ [u] ++ l.drop i ≠ l := fun e => by
  have := congrArg List.length e
  rw [List.length_append, List.length_append, List.length_take, List.length_drop, List.length_singleton] at this
  omega
theorem off_ne {l : List Cell} {i : Nat} {u : Cell} (h : l[i]? = some u) : l.set i { u with off := IntKind.i64.wrap (u.off + 1) } ≠ l := fun e => by
  have h2 := (set_iff h).1 e
  have h3 : IntKind.i64.wrap (u.off + 1) = u.off := congrArg Cell.off h2
  rw [IntKind.wrap_i64] at h3
  omega
theorem rightS_ne {p : Prg} {o : List Int} {K : Nat} {b b' : SB} (h : (splitL p o)[K]? = some b) (hne : b' ≠ b) : rightS p ⟨(splitL p o).set K b', o⟩ = false := by
  unfold rightS
  rw [show decide ((⟨(splitL p o).set K b', o⟩ : Spl).bl = splitL p (⟨(splitL p o).set K b', o⟩ : Spl).o) = false from decide_eq_false fun e => hne ((set_iff h).1 e), Bool.and_false]
def spCTu : Spec := ⟨[], fun xs => match xs with
  | [x, .s (.int .i64 m), .s (.int .i64 _), .s (.bool _)] => (prgOf x).bind fun _ => if m ≤ 9223372036854775807 then some (.s (.bool true)) else none
  | _ => none⟩
set_option maxRecDepth 8000 in
set_option maxHeartbeats 32000000 in
theorem ctu_impl : Impl Tryz.prog 5 spCTu := by
  refine impl_walk2 mixed cUb_ok eqT_ok Tryz.func5 rfl Tryz.ntmps5 (by kernel_rfl) ?_
  intro xs r h
  unfold spCTu at h
  simp only at h
  (try split at h) <;> try (cases (show none = some r from h); done)
  rename_i x m w onE
  obtain ⟨p, hp, h3⟩ := Option.bind_eq_some_iff.1 h
  clear h
  split at h3
  case isFalse => cases h3
  rename_i hm
  cases h3
  refine ⟨_, (SeesL.cons (prgOf_sees hp) .same).args, by simp, ?_⟩
  have hF := few_v p
  have hS := spSpA_v p
  have hol := of_len p
  obtain ⟨o, hoe⟩ : ∃ o, ofO p = o := ⟨_, rfl⟩
  have hcl : rightP p = true → closedB p o = true := fun h => by rw [← hoe]; exact of_closed h
  rw [hoe] at hS hol
  have hto := take_iv hol
  simp only [Prg.v] at hF hS
  cases cr : rightP p
  · have hc : closedB p o = false := by unfold closedB; rw [cr]; rfl
    rw [swV_no hc] at hS
    simp only [noS, z16, List.replicate] at hS
    cases c1 : fewB p
    · rw [c1] at hF
      simp only [go_sem, seval, eq_self, reduceCtorEq, Prg.v, cUb_at, spTrue_mv, spTrue_fn, spSpA_mv, hS, spFew_mv, hF]
      repeat' ((first | (refine AG_of ?_ ?_ <;> intro h) | (refine AB_of ?_ ?_ <;> intro h) | (refine A_draw_of [] [] (by kernel_rfl) ?_ <;> have h := mark)) <;> simp only [go_sem, seval, eq_self, reduceCtorEq, Prg.v, cUb_at, spTrue_mv, spTrue_fn, spSpA_mv, hS, spFew_mv, hF, h])
      all_goals (first | refine fin_ret ?_ | refine fin_normal ?_)
      all_goals simp only [resOf, Tryz.results5, Tryz.ntmps5, go_sem, seval, eq_self, reduceCtorEq]
    · rw [c1] at hF
      simp only [go_sem, seval, eq_self, reduceCtorEq, Prg.v, cUb_at, spTrue_mv, spTrue_fn, spSpA_mv, hS, spFew_mv, hF]
      repeat' ((first | (refine AG_of ?_ ?_ <;> intro h) | (refine AB_of ?_ ?_ <;> intro h) | (refine A_draw_of [] [] (by kernel_rfl) ?_ <;> have h := mark)) <;> simp only [go_sem, seval, eq_self, reduceCtorEq, Prg.v, cUb_at, spTrue_mv, spTrue_fn, spSpA_mv, hS, spFew_mv, hF, h])
      all_goals (first | refine fin_ret ?_ | refine fin_normal ?_)
      all_goals simp only [resOf, Tryz.results5, Tryz.ntmps5, go_sem, seval, eq_self, reduceCtorEq]
  have hc := hcl cr
  rw [swV_ok hc] at hS
  cases c1 : fewB p
  · rw [c1] at hF
    simp only [go_sem, seval, eq_self, reduceCtorEq, Prg.v, cUb_at, spTrue_mv, spTrue_fn, spSpA_mv, hS, hol, hto, spFew_mv, hF, z16, List.replicate, List.length_map]
    repeat' ((first | (refine AG_of ?_ ?_ <;> intro h) | (refine AB_of ?_ ?_ <;> intro h) | (refine A_draw_of [] [] (by kernel_rfl) ?_ <;> have h := mark)) <;> simp only [go_sem, seval, eq_self, reduceCtorEq, Prg.v, cUb_at, spTrue_mv, spTrue_fn, spSpA_mv, hS, hol, hto, spFew_mv, hF, z16, List.replicate, List.length_map, h])
    all_goals (first | refine fin_ret ?_ | refine fin_normal ?_)
    all_goals simp only [resOf, Tryz.results5, Tryz.ntmps5, go_sem, seval, eq_self, reduceCtorEq]
  rw [c1] at hF
  by_cases hm0 : m < 0
  · have g1 : decide (m < 0) = true := by simp; omega
    simp only [go_sem, seval, eq_self, reduceCtorEq, Prg.v, cUb_at, spTrue_mv, spTrue_fn, spSpA_mv, hS, hol, hto, spFew_mv, hF, g1, z16, List.replicate, List.length_map]
    repeat' ((first | (refine AG_of ?_ ?_ <;> intro h) | (refine AB_of ?_ ?_ <;> intro h) | (refine A_draw_of [] [] (by kernel_rfl) ?_ <;> have h := mark)) <;> simp only [go_sem, seval, eq_self, reduceCtorEq, Prg.v, cUb_at, spTrue_mv, spTrue_fn, spSpA_mv, hS, hol, hto, spFew_mv, hF, g1, z16, List.replicate, List.length_map, h])
    all_goals (first | refine fin_ret ?_ | refine fin_normal ?_)
    all_goals simp only [resOf, Tryz.results5, Tryz.ntmps5, go_sem, seval, eq_self, reduceCtorEq]
  have g1 : decide (m < 0) = false := by simp; omega
  obtain ⟨M, rfl⟩ : ∃ M : Nat, m = M := ⟨m.toNat, by omega⟩
  obtain ⟨W, hW⟩ : ∃ W, bits .and .i64 w 3 = W := ⟨_, rfl⟩
  have hW4 : W = 0 ∨ W = 1 ∨ W = 2 ∨ W = 3 := by have := i64_and3 w; omega
  have hrl := right_len cr
  obtain ⟨hN1, hN2⟩ := cutL_pos cr
  have hl1 := splitL_len p o
  have hfit := splitL_fit cr o
  have hlist : ∀ b ∈ splitL p o, b.a.length ≤ 6000 ∧ b.e.length ≤ 6000 := fun b hb => by
    unfold splitL at hb
    obtain ⟨b0, hb0, rfl⟩ := List.mem_map.1 hb
    obtain ⟨k, hk, rfl⟩ := List.getElem_of_mem hb0
    obtain ⟨s1, s2⟩ := sbAt_cells (o := o) (List.getElem?_eq_getElem hk)
    obtain ⟨_, _, h3, h4⟩ := blk_bd (List.getElem?_eq_getElem hk)
    have l1 := iCells_len aCells_len p.code o (bdAt p k) (bdAt p (k + 1) - bdAt p k)
    have l2 := iCells_len eCells_len p.code o (bdAt p k) (bdAt p (k + 1) - bdAt p k)
    rw [s1, s2]
    omega
  obtain ⟨BL, hBL⟩ : ∃ BL, splitL p o = BL := ⟨_, rfl⟩
  obtain ⟨N, hN⟩ : ∃ N, (cutL p).length = N := ⟨_, rfl⟩
  rw [hN] at hN1 hN2 hl1
  have hrne := fun (b b' : SB) (k : Nat) => @rightS_ne p o k b b'
  have hga := fun (k : Nat) (b : SB) (h : (splitL p o)[k]? = some b) => spl_k4 h
  rw [hBL] at hS hl1 hfit hlist hrne hga
  obtain ⟨hfit1, hfit2⟩ := sbsFit_iff hfit
  have hKN : M % N < N := Nat.mod_lt _ hN1
  obtain ⟨K, hK⟩ : ∃ K, M % N = K := ⟨_, rfl⟩
  rw [hK] at hKN
  have hz : ¬ ((N : Nat) : Int) = 0 := by omega
  have hrem : Int.tmod (M : Int) (N : Int) = (K : Int) := by rw [← hK]; exact (Int.ofNat_tmod M N).symm
  have hMN : M / N ≤ M := Nat.div_le_self _ _
  have hquo : Int.tdiv (M : Int) (N : Int) = ((M / N : Nat) : Int) := (Int.ofNat_tdiv M N).symm
  obtain ⟨R, hR0⟩ : ∃ R, M / N = R := ⟨_, rfl⟩
  rw [hR0] at hMN hquo
  have wq : IntKind.i64.wrap (R : Int) = (R : Int) := by rw [w_i64 (by omega) (by omega)]
  obtain ⟨b, qb⟩ : ∃ b, BL[K]? = some b := ⟨BL[K]'(by omega), List.getElem?_eq_getElem (by omega)⟩
  obtain ⟨la, le⟩ := hlist b (List.mem_of_getElem? qb)
  obtain ⟨f1, t1, nx, tk, A, E⟩ := b
  simp only at la le
  have hscA := scal_cell A
  have hscE := scal_cell E
  have f6 : N * 80 ≤ 140737488355328 := by omega
  have fA : A.length * 72 ≤ 140737488355328 := by omega
  have fE : E.length * 72 ≤ 140737488355328 := by omega
  have zK := Int.natCast_nonneg K
  have hKB : (K : Int) < (BL.length : Int) := by omega
  have hKN2 : (K : Int) < (N : Int) := by omega
  have hex := exp_set2 BL (K := K) (by omega)
  simp only [V.cells] at hex
  have qbv : (BL.map SB.v)[K]? = some (SB.v ⟨f1, t1, nx, tk, A, E⟩) := by rw [List.getElem?_map, qb]; rfl
  obtain ⟨BV, hBV⟩ : ∃ BV, BL.map SB.v = BV := ⟨_, rfl⟩
  have hBVl : BV.length = N := by rw [← hBV, List.length_map, hl1]
  rw [hBV] at hS hex qbv
  have hgs : ∀ Y : V, (BV.set K Y)[K]? = some Y := fun Y => List.getElem?_set_self (by omega)
  have hBVs : ∀ Y : V, (BV.set K Y).length = N := fun Y => by rw [List.length_set, hBVl]
  cases onE
  · -- one side
    by_cases h2 : A.length = 0
    · have g3 : ((A.length : Int) == 0) = true := by rw [beq_iff_eq]; omega
      simp only [go_sem, seval, eq_self, reduceCtorEq, Prg.v, hW, cUb_at, spTrue_mv, spTrue_fn, spSpA_mv, hS, hol, hto, spFew_mv, hF, g1, hBVl, hz, hrem, hquo, wq, zK, hKN2, qbv, hscA, hscE, f6, fA, fE, SB.v, z16, List.replicate, Int.toNat_natCast, List.length_map, g3]
      repeat' ((first | (refine AG_of ?_ ?_ <;> intro h) | (refine AB_of ?_ ?_ <;> intro h)) <;> simp only [go_sem, seval, eq_self, reduceCtorEq, Prg.v, hW, cUb_at, spTrue_mv, spTrue_fn, spSpA_mv, hS, hol, hto, spFew_mv, hF, g1, hBVl, hz, hrem, hquo, wq, zK, hKN2, qbv, hscA, hscE, f6, fA, fE, SB.v, z16, List.replicate, Int.toNat_natCast, List.length_map, g3, h])
      refine A_draw_of [49, 13] [49, 13, 1013049] (by kernel_rfl) ?_
      simp only [go_sem, seval, eq_self, reduceCtorEq, Prg.v, hW, cUb_at, spTrue_mv, spTrue_fn, spSpA_mv, hS, hol, hto, spFew_mv, hF, g1, hBVl, hz, hrem, hquo, wq, zK, hKN2, qbv, hscA, hscE, f6, fA, fE, SB.v, z16, List.replicate, Int.toNat_natCast, List.length_map, g3]
      repeat' ((first | (refine AG_of ?_ ?_ <;> intro h) | (refine AB_of ?_ ?_ <;> intro h) | (refine A_draw_of [] [] (by kernel_rfl) ?_ <;> have h := mark)) <;> simp only [go_sem, seval, eq_self, reduceCtorEq, Prg.v, hW, cUb_at, spTrue_mv, spTrue_fn, spSpA_mv, hS, hol, hto, spFew_mv, hF, g1, hBVl, hz, hrem, hquo, wq, zK, hKN2, qbv, hscA, hscE, f6, fA, fE, SB.v, z16, List.replicate, Int.toNat_natCast, List.length_map, g3, h])
      all_goals (first | refine fin_ret ?_ | refine fin_normal ?_)
      all_goals simp only [resOf, Tryz.results5, Tryz.ntmps5, go_sem, seval, eq_self, reduceCtorEq]
    have g3 : ((A.length : Int) == 0) = false := by rw [beq_eq_false_iff_ne]; omega
    have hLz : ¬ ((A.length : Nat) : Int) = 0 := by omega
    have hI1 : R % A.length < A.length := Nat.mod_lt _ (by omega)
    have hremI : Int.tmod (R : Int) (A.length : Int) = ((R % A.length : Nat) : Int) := (Int.ofNat_tmod _ _).symm
    obtain ⟨I, hI⟩ : ∃ I, R % A.length = I := ⟨_, rfl⟩
    rw [hI] at hI1 hremI
    have zI := Int.natCast_nonneg I
    have hIL : (I : Int) < (A.length : Int) := by omega
    obtain ⟨u, qu⟩ : ∃ u, A[I]? = some u := ⟨A[I], List.getElem?_eq_getElem hI1⟩
    have nI : IntKind.i64.wrap ((I : Int) + 1) = ((I + 1 : Nat) : Int) := by rw [w_i64 (by omega) (by omega)]; omega
    have zI1 := Int.natCast_nonneg (I + 1)
    have hIl1 : ((I + 1 : Nat) : Int) ≤ (A.length : Int) := by omega
    have hIl0 : (I : Int) ≤ (A.length : Int) := by omega
    have hXI : (A.map Cell.v)[I]? = some u.v := by rw [List.getElem?_map, qu]; rfl
    have hsc2 := scal_cell A
    have hm1 : (A.map Cell.v).take I ++ (A.map Cell.v).drop (I + 1) = (A.take I ++ A.drop (I + 1)).map Cell.v := by simp
    have hm2 : (A.map Cell.v).take I ++ u.v :: (A.map Cell.v).drop I = (A.take I ++ [u] ++ A.drop I).map Cell.v := by simp
    have hm3 : (A.map Cell.v).set I (Cell.v { u with off := IntKind.i64.wrap (u.off + 1) }) = (A.set I { u with off := IntKind.i64.wrap (u.off + 1) }).map Cell.v := by rw [List.map_set]
    obtain ⟨X, hX⟩ : ∃ X, A.map Cell.v = X := ⟨_, rfl⟩
    have hXl : X.length = A.length := by rw [← hX, List.length_map]
    rw [hX] at hXI hsc2 hm1 hm2 hm3
    have tk1 : (List.take I X).length = I := by rw [List.length_take]; omega
    have tkU : (List.take I X ++ [u.v]).length = I + 1 := by rw [List.length_append, tk1]; rfl
    have tk2 : List.take (A.length - (I + 1)) (List.drop (I + 1) X) = List.drop (I + 1) X := List.take_of_length_le (by rw [List.length_drop]; omega)
    have tk3 : List.take (A.length - I) (List.drop I X) = List.drop I X := List.take_of_length_le (by rw [List.length_drop]; omega)
    have dl1 : (List.drop (I + 1) X).length = A.length - (I + 1) := by rw [List.length_drop, hXl]
    have dl2 : (List.drop I X).length = A.length - I := by rw [List.length_drop, hXl]
    have ft1 : I * 72 ≤ 140737488355328 := by omega
    have ft2 : (I + (A.length - (I + 1))) * 72 ≤ 140737488355328 := by omega
    have ft3 : (I + 1) * 72 ≤ 140737488355328 := by omega
    have ft4 : (I + 1 + (A.length - I)) * 72 ≤ 140737488355328 := by omega
    have in1 : I ≤ A.length := by omega
    have in2 : I + 1 + (A.length - (I + 1)) ≤ A.length := by omega
    have in3 : I + (A.length - I) ≤ A.length := by omega
    obtain ⟨j1, hj1⟩ : ∃ b, (u.kind != 1) = b := ⟨_, rfl⟩
    obtain ⟨j2, hj2⟩ : ∃ b, (u.kind != 2) = b := ⟨_, rfl⟩
    simp only [Cell.v] at hXI hm1 hm2 hm3 tkU
    have hRB : ∀ L2 : List Cell, L2 ≠ A → L2.length ≤ 6001 → spRightS.fn [(Prg.v p), .agg (.lst false 6 (BV.set K (SB.v ⟨f1, t1, nx, tk, L2, E⟩)) :: o.map iv)] = some (.s (.bool false)) ∧ spBal.fn [SB.v ⟨f1, t1, nx, tk, L2, E⟩] = some (.s (.bool (balB ⟨f1, t1, nx, tk, L2, E⟩))) := fun L2 hne hL2 => by
      have hsetB : BV.set K (SB.v ⟨f1, t1, nx, tk, L2, E⟩) = (BL.set K ⟨f1, t1, nx, tk, L2, E⟩).map SB.v := by rw [← hBV, List.map_set]
      have hfit3 : sbsFit (BL.set K ⟨f1, t1, nx, tk, L2, E⟩) = true := by
        unfold sbsFit
        simp only [Bool.and_eq_true, decide_eq_true_eq, List.all_eq_true]
        refine ⟨by rw [List.length_set]; omega, fun c hc => ?_⟩
        rcases List.mem_or_eq_of_mem_set hc with hc | rfl
        · exact hfit2 c hc
        · unfold sbFit
          simp only [Bool.and_eq_true, decide_eq_true_eq]
          omega
      have hR := spRightS_v (splOf_v false (BL.set K ⟨f1, t1, nx, tk, L2, E⟩) hol) hfit3 p
      rw [hrne _ ⟨f1, t1, nx, tk, L2, E⟩ K qb (fun e => hne (by injection e)), ← hsetB] at hR
      refine ⟨hR, spBal_v ?_⟩
      unfold sbLit
      simp only [Bool.and_eq_true, decide_eq_true_eq]
      omega
    simp only [Prg.v, SB.v] at hRB
    have hgone : j1 = true → j2 = true → balB ⟨f1, t1, nx, tk, A.take I ++ A.drop (I + 1), E⟩ = false := fun e1 e2 => by
      rw [← hj1, bne_iff_ne] at e1
      rw [← hj2, bne_iff_ne] at e2
      obtain ⟨b4, hb4, hs4⟩ := hga K _ qb
      refine gone_a cr o hb4 (i := I) (c := u) (by rw [hs4]; exact qu) e1 e2 (by rw [hs4]) (by rw [hs4])
    rcases hW4 with rfl | rfl | rfl | rfl
    · obtain ⟨hR, hB⟩ := hRB (A.take I ++ A.drop (I + 1)) (take_ne hI1) (by rw [List.length_append, List.length_take, List.length_drop]; omega)
      have hcl2 : (A.take I ++ A.drop (I + 1)).length = I + (A.length - (I + 1)) := by rw [List.length_append, List.length_take, List.length_drop]; omega
      obtain ⟨L2, hL2⟩ : ∃ L2, A.take I ++ A.drop (I + 1) = L2 := ⟨_, rfl⟩
      rw [hL2] at hR hB hm1 hgone hcl2
      obtain ⟨bb, hbb⟩ : ∃ bb, balB ⟨f1, t1, nx, tk, L2, E⟩ = bb := ⟨_, rfl⟩
      rw [hbb] at hB hgone
      simp only [go_sem, seval, eq_self, reduceCtorEq, Prg.v, hW, cUb_at, spTrue_mv, spTrue_fn, spSpA_mv, hS, hol, hto, spFew_mv, hF, g1, hBVl, hz, hrem, hquo, wq, zK, hKN2, qbv, hscA, hscE, f6, fA, fE, SB.v, z16, List.replicate, Int.toNat_natCast, List.length_map, hX, g3, hXl, hsc2]
      repeat' ((first | (refine AG_of ?_ ?_ <;> intro h) | (refine AB_of ?_ ?_ <;> intro h)) <;> simp only [go_sem, seval, eq_self, reduceCtorEq, Prg.v, hW, cUb_at, spTrue_mv, spTrue_fn, spSpA_mv, hS, hol, hto, spFew_mv, hF, g1, hBVl, hz, hrem, hquo, wq, zK, hKN2, qbv, hscA, hscE, f6, fA, fE, SB.v, z16, List.replicate, Int.toNat_natCast, List.length_map, hX, g3, hXl, hsc2, h])
      refine A_draw_of [49, 13] [49, 13, 1013049] (by kernel_rfl) ?_
      simp only [go_sem, seval, eq_self, reduceCtorEq, Prg.v, hW, cUb_at, spTrue_mv, spTrue_fn, spSpA_mv, hS, hol, hto, spFew_mv, hF, g1, hBVl, hz, hrem, hquo, wq, zK, hKN2, qbv, hscA, hscE, f6, fA, fE, SB.v, z16, List.replicate, Int.toNat_natCast, List.length_map, hX, g3, hXl, hsc2, hXI, hLz, hremI, zI, hIL, hW]
      repeat' ((first | (refine AG_of ?_ ?_ <;> intro h) | (refine AB_of ?_ ?_ <;> intro h)) <;> simp only [go_sem, seval, eq_self, reduceCtorEq, Prg.v, hW, cUb_at, spTrue_mv, spTrue_fn, spSpA_mv, hS, hol, hto, spFew_mv, hF, g1, hBVl, hz, hrem, hquo, wq, zK, hKN2, qbv, hscA, hscE, f6, fA, fE, SB.v, z16, List.replicate, Int.toNat_natCast, List.length_map, hX, g3, hXl, hsc2, hXI, hLz, hremI, zI, hIL, hW, h])
      refine A_draw_of [100] [100, 105] (by kernel_rfl) ?_
      simp only [go_sem, seval, eq_self, reduceCtorEq, Prg.v, hW, cUb_at, spTrue_mv, spTrue_fn, spSpA_mv, hS, hol, hto, spFew_mv, hF, g1, hBVl, hz, hrem, hquo, wq, zK, hKN2, qbv, hscA, hscE, f6, fA, fE, SB.v, z16, List.replicate, Int.toNat_natCast, List.length_map, hX, hXl, hXI, zI, hIL, hIl0, hIl1, zI1, nI, hsc2, tk1, tk2, dl1, ft1, ft2, in1, in2, Nat.sub_zero, Nat.zero_add, List.drop_zero, hm1]
      repeat' ((first | (refine AG_of ?_ ?_ <;> intro h) | (refine AB_of ?_ ?_ <;> intro h)) <;> simp only [go_sem, seval, eq_self, reduceCtorEq, Prg.v, hW, cUb_at, spTrue_mv, spTrue_fn, spSpA_mv, hS, hol, hto, spFew_mv, hF, g1, hBVl, hz, hrem, hquo, wq, zK, hKN2, qbv, hscA, hscE, f6, fA, fE, SB.v, z16, List.replicate, Int.toNat_natCast, List.length_map, hX, hXl, hXI, zI, hIL, hIl0, hIl1, zI1, nI, hsc2, tk1, tk2, dl1, ft1, ft2, in1, in2, Nat.sub_zero, Nat.zero_add, List.drop_zero, hm1, h])
      cases j1
      ·
        simp only [go_sem, seval, eq_self, reduceCtorEq, Prg.v, hW, cUb_at, spTrue_mv, spTrue_fn, spSpA_mv, hS, hol, hto, spFew_mv, hF, g1, hBVl, hz, hrem, hquo, wq, zK, hKN2, qbv, hscA, hscE, f6, fA, fE, SB.v, z16, List.replicate, Int.toNat_natCast, List.length_map, hX, hXl, hXI, zI, hIL, hIl0, hIl1, zI1, nI, hsc2, tk1, tk2, dl1, ft1, ft2, in1, in2, Nat.sub_zero, Nat.zero_add, List.drop_zero, hm1, hcl2, hex, hKB, hl1, hgs, hBVs, spRightS_mv, hR, spBal_mv, hB, hj1, hj2, List.length_set]
        repeat' ((first | (refine AG_of ?_ ?_ <;> intro h) | (refine AB_of ?_ ?_ <;> intro h) | (refine A_draw_of [] [] (by kernel_rfl) ?_ <;> have h := mark)) <;> simp only [go_sem, seval, eq_self, reduceCtorEq, Prg.v, hW, cUb_at, spTrue_mv, spTrue_fn, spSpA_mv, hS, hol, hto, spFew_mv, hF, g1, hBVl, hz, hrem, hquo, wq, zK, hKN2, qbv, hscA, hscE, f6, fA, fE, SB.v, z16, List.replicate, Int.toNat_natCast, List.length_map, hX, hXl, hXI, zI, hIL, hIl0, hIl1, zI1, nI, hsc2, tk1, tk2, dl1, ft1, ft2, in1, in2, Nat.sub_zero, Nat.zero_add, List.drop_zero, hm1, hcl2, hex, hKB, hl1, hgs, hBVs, spRightS_mv, hR, spBal_mv, hB, hj1, hj2, List.length_set, h])
        all_goals (first | refine fin_ret ?_ | refine fin_normal ?_)
        all_goals simp only [resOf, Tryz.results5, Tryz.ntmps5, go_sem, seval, eq_self, reduceCtorEq]
      · cases j2
        ·
          simp only [go_sem, seval, eq_self, reduceCtorEq, Prg.v, hW, cUb_at, spTrue_mv, spTrue_fn, spSpA_mv, hS, hol, hto, spFew_mv, hF, g1, hBVl, hz, hrem, hquo, wq, zK, hKN2, qbv, hscA, hscE, f6, fA, fE, SB.v, z16, List.replicate, Int.toNat_natCast, List.length_map, hX, hXl, hXI, zI, hIL, hIl0, hIl1, zI1, nI, hsc2, tk1, tk2, dl1, ft1, ft2, in1, in2, Nat.sub_zero, Nat.zero_add, List.drop_zero, hm1, hcl2, hex, hKB, hl1, hgs, hBVs, spRightS_mv, hR, spBal_mv, hB, hj1, hj2, List.length_set]
          repeat' ((first | (refine AG_of ?_ ?_ <;> intro h) | (refine AB_of ?_ ?_ <;> intro h) | (refine A_draw_of [] [] (by kernel_rfl) ?_ <;> have h := mark)) <;> simp only [go_sem, seval, eq_self, reduceCtorEq, Prg.v, hW, cUb_at, spTrue_mv, spTrue_fn, spSpA_mv, hS, hol, hto, spFew_mv, hF, g1, hBVl, hz, hrem, hquo, wq, zK, hKN2, qbv, hscA, hscE, f6, fA, fE, SB.v, z16, List.replicate, Int.toNat_natCast, List.length_map, hX, hXl, hXI, zI, hIL, hIl0, hIl1, zI1, nI, hsc2, tk1, tk2, dl1, ft1, ft2, in1, in2, Nat.sub_zero, Nat.zero_add, List.drop_zero, hm1, hcl2, hex, hKB, hl1, hgs, hBVs, spRightS_mv, hR, spBal_mv, hB, hj1, hj2, List.length_set, h])
          all_goals (first | refine fin_ret ?_ | refine fin_normal ?_)
          all_goals simp only [resOf, Tryz.results5, Tryz.ntmps5, go_sem, seval, eq_self, reduceCtorEq]
        · obtain rfl := hgone rfl rfl
          simp only [go_sem, seval, eq_self, reduceCtorEq, Prg.v, hW, cUb_at, spTrue_mv, spTrue_fn, spSpA_mv, hS, hol, hto, spFew_mv, hF, g1, hBVl, hz, hrem, hquo, wq, zK, hKN2, qbv, hscA, hscE, f6, fA, fE, SB.v, z16, List.replicate, Int.toNat_natCast, List.length_map, hX, hXl, hXI, zI, hIL, hIl0, hIl1, zI1, nI, hsc2, tk1, tk2, dl1, ft1, ft2, in1, in2, Nat.sub_zero, Nat.zero_add, List.drop_zero, hm1, hcl2, hex, hKB, hl1, hgs, hBVs, spRightS_mv, hR, spBal_mv, hB, hj1, hj2, List.length_set]
          repeat' ((first | (refine AG_of ?_ ?_ <;> intro h) | (refine AB_of ?_ ?_ <;> intro h) | (refine A_draw_of [] [] (by kernel_rfl) ?_ <;> have h := mark)) <;> simp only [go_sem, seval, eq_self, reduceCtorEq, Prg.v, hW, cUb_at, spTrue_mv, spTrue_fn, spSpA_mv, hS, hol, hto, spFew_mv, hF, g1, hBVl, hz, hrem, hquo, wq, zK, hKN2, qbv, hscA, hscE, f6, fA, fE, SB.v, z16, List.replicate, Int.toNat_natCast, List.length_map, hX, hXl, hXI, zI, hIL, hIl0, hIl1, zI1, nI, hsc2, tk1, tk2, dl1, ft1, ft2, in1, in2, Nat.sub_zero, Nat.zero_add, List.drop_zero, hm1, hcl2, hex, hKB, hl1, hgs, hBVs, spRightS_mv, hR, spBal_mv, hB, hj1, hj2, List.length_set, h])
          all_goals (first | refine fin_ret ?_ | refine fin_normal ?_)
          all_goals simp only [resOf, Tryz.results5, Tryz.ntmps5, go_sem, seval, eq_self, reduceCtorEq]
    · obtain ⟨hR, hB⟩ := hRB (A.take I ++ A.drop (I + 1)) (take_ne hI1) (by rw [List.length_append, List.length_take, List.length_drop]; omega)
      have hcl2 : (A.take I ++ A.drop (I + 1)).length = I + (A.length - (I + 1)) := by rw [List.length_append, List.length_take, List.length_drop]; omega
      obtain ⟨L2, hL2⟩ : ∃ L2, A.take I ++ A.drop (I + 1) = L2 := ⟨_, rfl⟩
      rw [hL2] at hR hB hm1 hgone hcl2
      obtain ⟨bb, hbb⟩ : ∃ bb, balB ⟨f1, t1, nx, tk, L2, E⟩ = bb := ⟨_, rfl⟩
      rw [hbb] at hB hgone
      simp only [go_sem, seval, eq_self, reduceCtorEq, Prg.v, hW, cUb_at, spTrue_mv, spTrue_fn, spSpA_mv, hS, hol, hto, spFew_mv, hF, g1, hBVl, hz, hrem, hquo, wq, zK, hKN2, qbv, hscA, hscE, f6, fA, fE, SB.v, z16, List.replicate, Int.toNat_natCast, List.length_map, hX, g3, hXl, hsc2]
      repeat' ((first | (refine AG_of ?_ ?_ <;> intro h) | (refine AB_of ?_ ?_ <;> intro h)) <;> simp only [go_sem, seval, eq_self, reduceCtorEq, Prg.v, hW, cUb_at, spTrue_mv, spTrue_fn, spSpA_mv, hS, hol, hto, spFew_mv, hF, g1, hBVl, hz, hrem, hquo, wq, zK, hKN2, qbv, hscA, hscE, f6, fA, fE, SB.v, z16, List.replicate, Int.toNat_natCast, List.length_map, hX, g3, hXl, hsc2, h])
      refine A_draw_of [49, 13] [49, 13, 1013049] (by kernel_rfl) ?_
      simp only [go_sem, seval, eq_self, reduceCtorEq, Prg.v, hW, cUb_at, spTrue_mv, spTrue_fn, spSpA_mv, hS, hol, hto, spFew_mv, hF, g1, hBVl, hz, hrem, hquo, wq, zK, hKN2, qbv, hscA, hscE, f6, fA, fE, SB.v, z16, List.replicate, Int.toNat_natCast, List.length_map, hX, g3, hXl, hsc2, hXI, hLz, hremI, zI, hIL, hW]
      repeat' ((first | (refine AG_of ?_ ?_ <;> intro h) | (refine AB_of ?_ ?_ <;> intro h)) <;> simp only [go_sem, seval, eq_self, reduceCtorEq, Prg.v, hW, cUb_at, spTrue_mv, spTrue_fn, spSpA_mv, hS, hol, hto, spFew_mv, hF, g1, hBVl, hz, hrem, hquo, wq, zK, hKN2, qbv, hscA, hscE, f6, fA, fE, SB.v, z16, List.replicate, Int.toNat_natCast, List.length_map, hX, g3, hXl, hsc2, hXI, hLz, hremI, zI, hIL, hW, h])
      refine A_draw_of [100] [100, 105] (by kernel_rfl) ?_
      simp only [go_sem, seval, eq_self, reduceCtorEq, Prg.v, hW, cUb_at, spTrue_mv, spTrue_fn, spSpA_mv, hS, hol, hto, spFew_mv, hF, g1, hBVl, hz, hrem, hquo, wq, zK, hKN2, qbv, hscA, hscE, f6, fA, fE, SB.v, z16, List.replicate, Int.toNat_natCast, List.length_map, hX, hXl, hXI, zI, hIL, hIl0, hIl1, zI1, nI, hsc2, tk1, tk2, dl1, ft1, ft2, in1, in2, Nat.sub_zero, Nat.zero_add, List.drop_zero, hm1]
      repeat' ((first | (refine AG_of ?_ ?_ <;> intro h) | (refine AB_of ?_ ?_ <;> intro h)) <;> simp only [go_sem, seval, eq_self, reduceCtorEq, Prg.v, hW, cUb_at, spTrue_mv, spTrue_fn, spSpA_mv, hS, hol, hto, spFew_mv, hF, g1, hBVl, hz, hrem, hquo, wq, zK, hKN2, qbv, hscA, hscE, f6, fA, fE, SB.v, z16, List.replicate, Int.toNat_natCast, List.length_map, hX, hXl, hXI, zI, hIL, hIl0, hIl1, zI1, nI, hsc2, tk1, tk2, dl1, ft1, ft2, in1, in2, Nat.sub_zero, Nat.zero_add, List.drop_zero, hm1, h])
      cases j1
      ·
        simp only [go_sem, seval, eq_self, reduceCtorEq, Prg.v, hW, cUb_at, spTrue_mv, spTrue_fn, spSpA_mv, hS, hol, hto, spFew_mv, hF, g1, hBVl, hz, hrem, hquo, wq, zK, hKN2, qbv, hscA, hscE, f6, fA, fE, SB.v, z16, List.replicate, Int.toNat_natCast, List.length_map, hX, hXl, hXI, zI, hIL, hIl0, hIl1, zI1, nI, hsc2, tk1, tk2, dl1, ft1, ft2, in1, in2, Nat.sub_zero, Nat.zero_add, List.drop_zero, hm1, hcl2, hex, hKB, hl1, hgs, hBVs, spRightS_mv, hR, spBal_mv, hB, hj1, hj2, List.length_set]
        repeat' ((first | (refine AG_of ?_ ?_ <;> intro h) | (refine AB_of ?_ ?_ <;> intro h) | (refine A_draw_of [] [] (by kernel_rfl) ?_ <;> have h := mark)) <;> simp only [go_sem, seval, eq_self, reduceCtorEq, Prg.v, hW, cUb_at, spTrue_mv, spTrue_fn, spSpA_mv, hS, hol, hto, spFew_mv, hF, g1, hBVl, hz, hrem, hquo, wq, zK, hKN2, qbv, hscA, hscE, f6, fA, fE, SB.v, z16, List.replicate, Int.toNat_natCast, List.length_map, hX, hXl, hXI, zI, hIL, hIl0, hIl1, zI1, nI, hsc2, tk1, tk2, dl1, ft1, ft2, in1, in2, Nat.sub_zero, Nat.zero_add, List.drop_zero, hm1, hcl2, hex, hKB, hl1, hgs, hBVs, spRightS_mv, hR, spBal_mv, hB, hj1, hj2, List.length_set, h])
        all_goals (first | refine fin_ret ?_ | refine fin_normal ?_)
        all_goals simp only [resOf, Tryz.results5, Tryz.ntmps5, go_sem, seval, eq_self, reduceCtorEq]
      · cases j2
        ·
          simp only [go_sem, seval, eq_self, reduceCtorEq, Prg.v, hW, cUb_at, spTrue_mv, spTrue_fn, spSpA_mv, hS, hol, hto, spFew_mv, hF, g1, hBVl, hz, hrem, hquo, wq, zK, hKN2, qbv, hscA, hscE, f6, fA, fE, SB.v, z16, List.replicate, Int.toNat_natCast, List.length_map, hX, hXl, hXI, zI, hIL, hIl0, hIl1, zI1, nI, hsc2, tk1, tk2, dl1, ft1, ft2, in1, in2, Nat.sub_zero, Nat.zero_add, List.drop_zero, hm1, hcl2, hex, hKB, hl1, hgs, hBVs, spRightS_mv, hR, spBal_mv, hB, hj1, hj2, List.length_set]
          repeat' ((first | (refine AG_of ?_ ?_ <;> intro h) | (refine AB_of ?_ ?_ <;> intro h) | (refine A_draw_of [] [] (by kernel_rfl) ?_ <;> have h := mark)) <;> simp only [go_sem, seval, eq_self, reduceCtorEq, Prg.v, hW, cUb_at, spTrue_mv, spTrue_fn, spSpA_mv, hS, hol, hto, spFew_mv, hF, g1, hBVl, hz, hrem, hquo, wq, zK, hKN2, qbv, hscA, hscE, f6, fA, fE, SB.v, z16, List.replicate, Int.toNat_natCast, List.length_map, hX, hXl, hXI, zI, hIL, hIl0, hIl1, zI1, nI, hsc2, tk1, tk2, dl1, ft1, ft2, in1, in2, Nat.sub_zero, Nat.zero_add, List.drop_zero, hm1, hcl2, hex, hKB, hl1, hgs, hBVs, spRightS_mv, hR, spBal_mv, hB, hj1, hj2, List.length_set, h])
          all_goals (first | refine fin_ret ?_ | refine fin_normal ?_)
          all_goals simp only [resOf, Tryz.results5, Tryz.ntmps5, go_sem, seval, eq_self, reduceCtorEq]
        · obtain rfl := hgone rfl rfl
          simp only [go_sem, seval, eq_self, reduceCtorEq, Prg.v, hW, cUb_at, spTrue_mv, spTrue_fn, spSpA_mv, hS, hol, hto, spFew_mv, hF, g1, hBVl, hz, hrem, hquo, wq, zK, hKN2, qbv, hscA, hscE, f6, fA, fE, SB.v, z16, List.replicate, Int.toNat_natCast, List.length_map, hX, hXl, hXI, zI, hIL, hIl0, hIl1, zI1, nI, hsc2, tk1, tk2, dl1, ft1, ft2, in1, in2, Nat.sub_zero, Nat.zero_add, List.drop_zero, hm1, hcl2, hex, hKB, hl1, hgs, hBVs, spRightS_mv, hR, spBal_mv, hB, hj1, hj2, List.length_set]
          repeat' ((first | (refine AG_of ?_ ?_ <;> intro h) | (refine AB_of ?_ ?_ <;> intro h) | (refine A_draw_of [] [] (by kernel_rfl) ?_ <;> have h := mark)) <;> simp only [go_sem, seval, eq_self, reduceCtorEq, Prg.v, hW, cUb_at, spTrue_mv, spTrue_fn, spSpA_mv, hS, hol, hto, spFew_mv, hF, g1, hBVl, hz, hrem, hquo, wq, zK, hKN2, qbv, hscA, hscE, f6, fA, fE, SB.v, z16, List.replicate, Int.toNat_natCast, List.length_map, hX, hXl, hXI, zI, hIL, hIl0, hIl1, zI1, nI, hsc2, tk1, tk2, dl1, ft1, ft2, in1, in2, Nat.sub_zero, Nat.zero_add, List.drop_zero, hm1, hcl2, hex, hKB, hl1, hgs, hBVs, spRightS_mv, hR, spBal_mv, hB, hj1, hj2, List.length_set, h])
          all_goals (first | refine fin_ret ?_ | refine fin_normal ?_)
          all_goals simp only [resOf, Tryz.results5, Tryz.ntmps5, go_sem, seval, eq_self, reduceCtorEq]
    · obtain ⟨hR, hB⟩ := hRB (A.take I ++ [u] ++ A.drop I) (twice_ne hI1) (by rw [List.length_append, List.length_append, List.length_take, List.length_drop, List.length_singleton]; omega)
      have hcl2 : (A.take I ++ [u] ++ A.drop I).length = I + 1 + (A.length - I) := by rw [List.length_append, List.length_append, List.length_take, List.length_drop, List.length_singleton]; omega
      obtain ⟨L2, hL2⟩ : ∃ L2, A.take I ++ [u] ++ A.drop I = L2 := ⟨_, rfl⟩
      rw [hL2] at hR hm2 hcl2
      simp only [go_sem, seval, eq_self, reduceCtorEq, Prg.v, hW, cUb_at, spTrue_mv, spTrue_fn, spSpA_mv, hS, hol, hto, spFew_mv, hF, g1, hBVl, hz, hrem, hquo, wq, zK, hKN2, qbv, hscA, hscE, f6, fA, fE, SB.v, z16, List.replicate, Int.toNat_natCast, List.length_map, hX, g3, hXl, hsc2]
      repeat' ((first | (refine AG_of ?_ ?_ <;> intro h) | (refine AB_of ?_ ?_ <;> intro h)) <;> simp only [go_sem, seval, eq_self, reduceCtorEq, Prg.v, hW, cUb_at, spTrue_mv, spTrue_fn, spSpA_mv, hS, hol, hto, spFew_mv, hF, g1, hBVl, hz, hrem, hquo, wq, zK, hKN2, qbv, hscA, hscE, f6, fA, fE, SB.v, z16, List.replicate, Int.toNat_natCast, List.length_map, hX, g3, hXl, hsc2, h])
      refine A_draw_of [49, 13] [49, 13, 1013049] (by kernel_rfl) ?_
      simp only [go_sem, seval, eq_self, reduceCtorEq, Prg.v, hW, cUb_at, spTrue_mv, spTrue_fn, spSpA_mv, hS, hol, hto, spFew_mv, hF, g1, hBVl, hz, hrem, hquo, wq, zK, hKN2, qbv, hscA, hscE, f6, fA, fE, SB.v, z16, List.replicate, Int.toNat_natCast, List.length_map, hX, g3, hXl, hsc2, hXI, hLz, hremI, zI, hIL, hW]
      repeat' ((first | (refine AG_of ?_ ?_ <;> intro h) | (refine AB_of ?_ ?_ <;> intro h)) <;> simp only [go_sem, seval, eq_self, reduceCtorEq, Prg.v, hW, cUb_at, spTrue_mv, spTrue_fn, spSpA_mv, hS, hol, hto, spFew_mv, hF, g1, hBVl, hz, hrem, hquo, wq, zK, hKN2, qbv, hscA, hscE, f6, fA, fE, SB.v, z16, List.replicate, Int.toNat_natCast, List.length_map, hX, g3, hXl, hsc2, hXI, hLz, hremI, zI, hIL, hW, h])
      refine A_draw_of [111, 116] [111, 116, 117, 121, 1116111] (by kernel_rfl) ?_
      simp only [go_sem, seval, eq_self, reduceCtorEq, Prg.v, hW, cUb_at, spTrue_mv, spTrue_fn, spSpA_mv, hS, hol, hto, spFew_mv, hF, g1, hBVl, hz, hrem, hquo, wq, zK, hKN2, qbv, hscA, hscE, f6, fA, fE, SB.v, z16, List.replicate, Int.toNat_natCast, List.length_map, hX, hXl, hXI, zI, hIL, hIl0, hIl1, zI1, nI, hsc2, tk1, tkU, tk3, dl2, ft1, ft3, ft4, in1, in3, Nat.sub_zero, Nat.zero_add, List.drop_zero, hm2]
      repeat' ((first | (refine AG_of ?_ ?_ <;> intro h) | (refine AB_of ?_ ?_ <;> intro h)) <;> simp only [go_sem, seval, eq_self, reduceCtorEq, Prg.v, hW, cUb_at, spTrue_mv, spTrue_fn, spSpA_mv, hS, hol, hto, spFew_mv, hF, g1, hBVl, hz, hrem, hquo, wq, zK, hKN2, qbv, hscA, hscE, f6, fA, fE, SB.v, z16, List.replicate, Int.toNat_natCast, List.length_map, hX, hXl, hXI, zI, hIL, hIl0, hIl1, zI1, nI, hsc2, tk1, tkU, tk3, dl2, ft1, ft3, ft4, in1, in3, Nat.sub_zero, Nat.zero_add, List.drop_zero, hm2, h])
      cases j1
      ·
        simp only [go_sem, seval, eq_self, reduceCtorEq, Prg.v, hW, cUb_at, spTrue_mv, spTrue_fn, spSpA_mv, hS, hol, hto, spFew_mv, hF, g1, hBVl, hz, hrem, hquo, wq, zK, hKN2, qbv, hscA, hscE, f6, fA, fE, SB.v, z16, List.replicate, Int.toNat_natCast, List.length_map, hX, hXl, hXI, zI, hIL, hIl0, hIl1, zI1, nI, hsc2, tk1, tkU, tk3, dl2, ft1, ft3, ft4, in1, in3, Nat.sub_zero, Nat.zero_add, List.drop_zero, hm2, hcl2, hex, hKB, hl1, hgs, hBVs, spRightS_mv, hR, hj1, hj2, List.length_set]
        repeat' ((first | (refine AG_of ?_ ?_ <;> intro h) | (refine AB_of ?_ ?_ <;> intro h) | (refine A_draw_of [] [] (by kernel_rfl) ?_ <;> have h := mark)) <;> simp only [go_sem, seval, eq_self, reduceCtorEq, Prg.v, hW, cUb_at, spTrue_mv, spTrue_fn, spSpA_mv, hS, hol, hto, spFew_mv, hF, g1, hBVl, hz, hrem, hquo, wq, zK, hKN2, qbv, hscA, hscE, f6, fA, fE, SB.v, z16, List.replicate, Int.toNat_natCast, List.length_map, hX, hXl, hXI, zI, hIL, hIl0, hIl1, zI1, nI, hsc2, tk1, tkU, tk3, dl2, ft1, ft3, ft4, in1, in3, Nat.sub_zero, Nat.zero_add, List.drop_zero, hm2, hcl2, hex, hKB, hl1, hgs, hBVs, spRightS_mv, hR, hj1, hj2, List.length_set, h])
        all_goals (first | refine fin_ret ?_ | refine fin_normal ?_)
        all_goals simp only [resOf, Tryz.results5, Tryz.ntmps5, go_sem, seval, eq_self, reduceCtorEq]
      · cases j2
        ·
          simp only [go_sem, seval, eq_self, reduceCtorEq, Prg.v, hW, cUb_at, spTrue_mv, spTrue_fn, spSpA_mv, hS, hol, hto, spFew_mv, hF, g1, hBVl, hz, hrem, hquo, wq, zK, hKN2, qbv, hscA, hscE, f6, fA, fE, SB.v, z16, List.replicate, Int.toNat_natCast, List.length_map, hX, hXl, hXI, zI, hIL, hIl0, hIl1, zI1, nI, hsc2, tk1, tkU, tk3, dl2, ft1, ft3, ft4, in1, in3, Nat.sub_zero, Nat.zero_add, List.drop_zero, hm2, hcl2, hex, hKB, hl1, hgs, hBVs, spRightS_mv, hR, hj1, hj2, List.length_set]
          repeat' ((first | (refine AG_of ?_ ?_ <;> intro h) | (refine AB_of ?_ ?_ <;> intro h) | (refine A_draw_of [] [] (by kernel_rfl) ?_ <;> have h := mark)) <;> simp only [go_sem, seval, eq_self, reduceCtorEq, Prg.v, hW, cUb_at, spTrue_mv, spTrue_fn, spSpA_mv, hS, hol, hto, spFew_mv, hF, g1, hBVl, hz, hrem, hquo, wq, zK, hKN2, qbv, hscA, hscE, f6, fA, fE, SB.v, z16, List.replicate, Int.toNat_natCast, List.length_map, hX, hXl, hXI, zI, hIL, hIl0, hIl1, zI1, nI, hsc2, tk1, tkU, tk3, dl2, ft1, ft3, ft4, in1, in3, Nat.sub_zero, Nat.zero_add, List.drop_zero, hm2, hcl2, hex, hKB, hl1, hgs, hBVs, spRightS_mv, hR, hj1, hj2, List.length_set, h])
          all_goals (first | refine fin_ret ?_ | refine fin_normal ?_)
          all_goals simp only [resOf, Tryz.results5, Tryz.ntmps5, go_sem, seval, eq_self, reduceCtorEq]
        ·
          simp only [go_sem, seval, eq_self, reduceCtorEq, Prg.v, hW, cUb_at, spTrue_mv, spTrue_fn, spSpA_mv, hS, hol, hto, spFew_mv, hF, g1, hBVl, hz, hrem, hquo, wq, zK, hKN2, qbv, hscA, hscE, f6, fA, fE, SB.v, z16, List.replicate, Int.toNat_natCast, List.length_map, hX, hXl, hXI, zI, hIL, hIl0, hIl1, zI1, nI, hsc2, tk1, tkU, tk3, dl2, ft1, ft3, ft4, in1, in3, Nat.sub_zero, Nat.zero_add, List.drop_zero, hm2, hcl2, hex, hKB, hl1, hgs, hBVs, spRightS_mv, hR, hj1, hj2, List.length_set]
          repeat' ((first | (refine AG_of ?_ ?_ <;> intro h) | (refine AB_of ?_ ?_ <;> intro h) | (refine A_draw_of [] [] (by kernel_rfl) ?_ <;> have h := mark)) <;> simp only [go_sem, seval, eq_self, reduceCtorEq, Prg.v, hW, cUb_at, spTrue_mv, spTrue_fn, spSpA_mv, hS, hol, hto, spFew_mv, hF, g1, hBVl, hz, hrem, hquo, wq, zK, hKN2, qbv, hscA, hscE, f6, fA, fE, SB.v, z16, List.replicate, Int.toNat_natCast, List.length_map, hX, hXl, hXI, zI, hIL, hIl0, hIl1, zI1, nI, hsc2, tk1, tkU, tk3, dl2, ft1, ft3, ft4, in1, in3, Nat.sub_zero, Nat.zero_add, List.drop_zero, hm2, hcl2, hex, hKB, hl1, hgs, hBVs, spRightS_mv, hR, hj1, hj2, List.length_set, h])
          all_goals (first | refine fin_ret ?_ | refine fin_normal ?_)
          all_goals simp only [resOf, Tryz.results5, Tryz.ntmps5, go_sem, seval, eq_self, reduceCtorEq]
    · obtain ⟨hR, hB⟩ := hRB (A.set I { u with off := IntKind.i64.wrap (u.off + 1) }) (off_ne qu) (by rw [List.length_set]; omega)
      have hcl2 : (A.set I { u with off := IntKind.i64.wrap (u.off + 1) }).length = A.length := by rw [List.length_set]
      obtain ⟨L2, hL2⟩ : ∃ L2, A.set I { u with off := IntKind.i64.wrap (u.off + 1) } = L2 := ⟨_, rfl⟩
      rw [hL2] at hR hm3 hcl2
      simp only [go_sem, seval, eq_self, reduceCtorEq, Prg.v, hW, cUb_at, spTrue_mv, spTrue_fn, spSpA_mv, hS, hol, hto, spFew_mv, hF, g1, hBVl, hz, hrem, hquo, wq, zK, hKN2, qbv, hscA, hscE, f6, fA, fE, SB.v, z16, List.replicate, Int.toNat_natCast, List.length_map, hX, g3, hXl, hsc2]
      repeat' ((first | (refine AG_of ?_ ?_ <;> intro h) | (refine AB_of ?_ ?_ <;> intro h)) <;> simp only [go_sem, seval, eq_self, reduceCtorEq, Prg.v, hW, cUb_at, spTrue_mv, spTrue_fn, spSpA_mv, hS, hol, hto, spFew_mv, hF, g1, hBVl, hz, hrem, hquo, wq, zK, hKN2, qbv, hscA, hscE, f6, fA, fE, SB.v, z16, List.replicate, Int.toNat_natCast, List.length_map, hX, g3, hXl, hsc2, h])
      refine A_draw_of [49, 13] [49, 13, 1013049] (by kernel_rfl) ?_
      simp only [go_sem, seval, eq_self, reduceCtorEq, Prg.v, hW, cUb_at, spTrue_mv, spTrue_fn, spSpA_mv, hS, hol, hto, spFew_mv, hF, g1, hBVl, hz, hrem, hquo, wq, zK, hKN2, qbv, hscA, hscE, f6, fA, fE, SB.v, z16, List.replicate, Int.toNat_natCast, List.length_map, hX, g3, hXl, hsc2, hXI, hLz, hremI, zI, hIL, hW]
      repeat' ((first | (refine AG_of ?_ ?_ <;> intro h) | (refine AB_of ?_ ?_ <;> intro h)) <;> simp only [go_sem, seval, eq_self, reduceCtorEq, Prg.v, hW, cUb_at, spTrue_mv, spTrue_fn, spSpA_mv, hS, hol, hto, spFew_mv, hF, g1, hBVl, hz, hrem, hquo, wq, zK, hKN2, qbv, hscA, hscE, f6, fA, fE, SB.v, z16, List.replicate, Int.toNat_natCast, List.length_map, hX, g3, hXl, hsc2, hXI, hLz, hremI, zI, hIL, hW, h])
      cases j1
      ·
        simp only [go_sem, seval, eq_self, reduceCtorEq, Prg.v, hW, cUb_at, spTrue_mv, spTrue_fn, spSpA_mv, hS, hol, hto, spFew_mv, hF, g1, hBVl, hz, hrem, hquo, wq, zK, hKN2, qbv, hscA, hscE, f6, fA, fE, SB.v, z16, List.replicate, Int.toNat_natCast, List.length_map, hX, hXl, hXI, zI, hIL, hIl0, hIl1, zI1, nI, hsc2, hm3, hcl2, hex, hKB, hl1, hgs, hBVs, spRightS_mv, hR, hj1, hj2, List.length_set]
        repeat' ((first | (refine AG_of ?_ ?_ <;> intro h) | (refine AB_of ?_ ?_ <;> intro h) | (refine A_draw_of [] [] (by kernel_rfl) ?_ <;> have h := mark)) <;> simp only [go_sem, seval, eq_self, reduceCtorEq, Prg.v, hW, cUb_at, spTrue_mv, spTrue_fn, spSpA_mv, hS, hol, hto, spFew_mv, hF, g1, hBVl, hz, hrem, hquo, wq, zK, hKN2, qbv, hscA, hscE, f6, fA, fE, SB.v, z16, List.replicate, Int.toNat_natCast, List.length_map, hX, hXl, hXI, zI, hIL, hIl0, hIl1, zI1, nI, hsc2, hm3, hcl2, hex, hKB, hl1, hgs, hBVs, spRightS_mv, hR, hj1, hj2, List.length_set, h])
        all_goals (first | refine fin_ret ?_ | refine fin_normal ?_)
        all_goals simp only [resOf, Tryz.results5, Tryz.ntmps5, go_sem, seval, eq_self, reduceCtorEq]
      · cases j2
        ·
          simp only [go_sem, seval, eq_self, reduceCtorEq, Prg.v, hW, cUb_at, spTrue_mv, spTrue_fn, spSpA_mv, hS, hol, hto, spFew_mv, hF, g1, hBVl, hz, hrem, hquo, wq, zK, hKN2, qbv, hscA, hscE, f6, fA, fE, SB.v, z16, List.replicate, Int.toNat_natCast, List.length_map, hX, hXl, hXI, zI, hIL, hIl0, hIl1, zI1, nI, hsc2, hm3, hcl2, hex, hKB, hl1, hgs, hBVs, spRightS_mv, hR, hj1, hj2, List.length_set]
          repeat' ((first | (refine AG_of ?_ ?_ <;> intro h) | (refine AB_of ?_ ?_ <;> intro h) | (refine A_draw_of [] [] (by kernel_rfl) ?_ <;> have h := mark)) <;> simp only [go_sem, seval, eq_self, reduceCtorEq, Prg.v, hW, cUb_at, spTrue_mv, spTrue_fn, spSpA_mv, hS, hol, hto, spFew_mv, hF, g1, hBVl, hz, hrem, hquo, wq, zK, hKN2, qbv, hscA, hscE, f6, fA, fE, SB.v, z16, List.replicate, Int.toNat_natCast, List.length_map, hX, hXl, hXI, zI, hIL, hIl0, hIl1, zI1, nI, hsc2, hm3, hcl2, hex, hKB, hl1, hgs, hBVs, spRightS_mv, hR, hj1, hj2, List.length_set, h])
          all_goals (first | refine fin_ret ?_ | refine fin_normal ?_)
          all_goals simp only [resOf, Tryz.results5, Tryz.ntmps5, go_sem, seval, eq_self, reduceCtorEq]
        ·
          simp only [go_sem, seval, eq_self, reduceCtorEq, Prg.v, hW, cUb_at, spTrue_mv, spTrue_fn, spSpA_mv, hS, hol, hto, spFew_mv, hF, g1, hBVl, hz, hrem, hquo, wq, zK, hKN2, qbv, hscA, hscE, f6, fA, fE, SB.v, z16, List.replicate, Int.toNat_natCast, List.length_map, hX, hXl, hXI, zI, hIL, hIl0, hIl1, zI1, nI, hsc2, hm3, hcl2, hex, hKB, hl1, hgs, hBVs, spRightS_mv, hR, hj1, hj2, List.length_set]
          repeat' ((first | (refine AG_of ?_ ?_ <;> intro h) | (refine AB_of ?_ ?_ <;> intro h) | (refine A_draw_of [] [] (by kernel_rfl) ?_ <;> have h := mark)) <;> simp only [go_sem, seval, eq_self, reduceCtorEq, Prg.v, hW, cUb_at, spTrue_mv, spTrue_fn, spSpA_mv, hS, hol, hto, spFew_mv, hF, g1, hBVl, hz, hrem, hquo, wq, zK, hKN2, qbv, hscA, hscE, f6, fA, fE, SB.v, z16, List.replicate, Int.toNat_natCast, List.length_map, hX, hXl, hXI, zI, hIL, hIl0, hIl1, zI1, nI, hsc2, hm3, hcl2, hex, hKB, hl1, hgs, hBVs, spRightS_mv, hR, hj1, hj2, List.length_set, h])
          all_goals (first | refine fin_ret ?_ | refine fin_normal ?_)
          all_goals simp only [resOf, Tryz.results5, Tryz.ntmps5, go_sem, seval, eq_self, reduceCtorEq]
  · -- one side
    by_cases h2 : E.length = 0
    · have g3 : ((E.length : Int) == 0) = true := by rw [beq_iff_eq]; omega
      simp only [go_sem, seval, eq_self, reduceCtorEq, Prg.v, hW, cUb_at, spTrue_mv, spTrue_fn, spSpA_mv, hS, hol, hto, spFew_mv, hF, g1, hBVl, hz, hrem, hquo, wq, zK, hKN2, qbv, hscA, hscE, f6, fA, fE, SB.v, z16, List.replicate, Int.toNat_natCast, List.length_map, g3]
      repeat' ((first | (refine AG_of ?_ ?_ <;> intro h) | (refine AB_of ?_ ?_ <;> intro h)) <;> simp only [go_sem, seval, eq_self, reduceCtorEq, Prg.v, hW, cUb_at, spTrue_mv, spTrue_fn, spSpA_mv, hS, hol, hto, spFew_mv, hF, g1, hBVl, hz, hrem, hquo, wq, zK, hKN2, qbv, hscA, hscE, f6, fA, fE, SB.v, z16, List.replicate, Int.toNat_natCast, List.length_map, g3, h])
      refine A_draw_of [49, 13] [49, 13, 1013049] (by kernel_rfl) ?_
      simp only [go_sem, seval, eq_self, reduceCtorEq, Prg.v, hW, cUb_at, spTrue_mv, spTrue_fn, spSpA_mv, hS, hol, hto, spFew_mv, hF, g1, hBVl, hz, hrem, hquo, wq, zK, hKN2, qbv, hscA, hscE, f6, fA, fE, SB.v, z16, List.replicate, Int.toNat_natCast, List.length_map, g3]
      repeat' ((first | (refine AG_of ?_ ?_ <;> intro h) | (refine AB_of ?_ ?_ <;> intro h) | (refine A_draw_of [] [] (by kernel_rfl) ?_ <;> have h := mark)) <;> simp only [go_sem, seval, eq_self, reduceCtorEq, Prg.v, hW, cUb_at, spTrue_mv, spTrue_fn, spSpA_mv, hS, hol, hto, spFew_mv, hF, g1, hBVl, hz, hrem, hquo, wq, zK, hKN2, qbv, hscA, hscE, f6, fA, fE, SB.v, z16, List.replicate, Int.toNat_natCast, List.length_map, g3, h])
      all_goals (first | refine fin_ret ?_ | refine fin_normal ?_)
      all_goals simp only [resOf, Tryz.results5, Tryz.ntmps5, go_sem, seval, eq_self, reduceCtorEq]
    have g3 : ((E.length : Int) == 0) = false := by rw [beq_eq_false_iff_ne]; omega
    have hLz : ¬ ((E.length : Nat) : Int) = 0 := by omega
    have hI1 : R % E.length < E.length := Nat.mod_lt _ (by omega)
    have hremI : Int.tmod (R : Int) (E.length : Int) = ((R % E.length : Nat) : Int) := (Int.ofNat_tmod _ _).symm
    obtain ⟨I, hI⟩ : ∃ I, R % E.length = I := ⟨_, rfl⟩
    rw [hI] at hI1 hremI
    have zI := Int.natCast_nonneg I
    have hIL : (I : Int) < (E.length : Int) := by omega
    obtain ⟨u, qu⟩ : ∃ u, E[I]? = some u := ⟨E[I], List.getElem?_eq_getElem hI1⟩
    have nI : IntKind.i64.wrap ((I : Int) + 1) = ((I + 1 : Nat) : Int) := by rw [w_i64 (by omega) (by omega)]; omega
    have zI1 := Int.natCast_nonneg (I + 1)
    have hIl1 : ((I + 1 : Nat) : Int) ≤ (E.length : Int) := by omega
    have hIl0 : (I : Int) ≤ (E.length : Int) := by omega
    have hXI : (E.map Cell.v)[I]? = some u.v := by rw [List.getElem?_map, qu]; rfl
    have hsc2 := scal_cell E
    have hm1 : (E.map Cell.v).take I ++ (E.map Cell.v).drop (I + 1) = (E.take I ++ E.drop (I + 1)).map Cell.v := by simp
    have hm2 : (E.map Cell.v).take I ++ u.v :: (E.map Cell.v).drop I = (E.take I ++ [u] ++ E.drop I).map Cell.v := by simp
    have hm3 : (E.map Cell.v).set I (Cell.v { u with off := IntKind.i64.wrap (u.off + 1) }) = (E.set I { u with off := IntKind.i64.wrap (u.off + 1) }).map Cell.v := by rw [List.map_set]
    obtain ⟨X, hX⟩ : ∃ X, E.map Cell.v = X := ⟨_, rfl⟩
    have hXl : X.length = E.length := by rw [← hX, List.length_map]
    rw [hX] at hXI hsc2 hm1 hm2 hm3
    have tk1 : (List.take I X).length = I := by rw [List.length_take]; omega
    have tkU : (List.take I X ++ [u.v]).length = I + 1 := by rw [List.length_append, tk1]; rfl
    have tk2 : List.take (E.length - (I + 1)) (List.drop (I + 1) X) = List.drop (I + 1) X := List.take_of_length_le (by rw [List.length_drop]; omega)
    have tk3 : List.take (E.length - I) (List.drop I X) = List.drop I X := List.take_of_length_le (by rw [List.length_drop]; omega)
    have dl1 : (List.drop (I + 1) X).length = E.length - (I + 1) := by rw [List.length_drop, hXl]
    have dl2 : (List.drop I X).length = E.length - I := by rw [List.length_drop, hXl]
    have ft1 : I * 72 ≤ 140737488355328 := by omega
    have ft2 : (I + (E.length - (I + 1))) * 72 ≤ 140737488355328 := by omega
    have ft3 : (I + 1) * 72 ≤ 140737488355328 := by omega
    have ft4 : (I + 1 + (E.length - I)) * 72 ≤ 140737488355328 := by omega
    have in1 : I ≤ E.length := by omega
    have in2 : I + 1 + (E.length - (I + 1)) ≤ E.length := by omega
    have in3 : I + (E.length - I) ≤ E.length := by omega
    obtain ⟨j1, hj1⟩ : ∃ b, (u.kind != 1) = b := ⟨_, rfl⟩
    obtain ⟨j2, hj2⟩ : ∃ b, (u.kind != 2) = b := ⟨_, rfl⟩
    simp only [Cell.v] at hXI hm1 hm2 hm3 tkU
    have hRB : ∀ L2 : List Cell, L2 ≠ E → L2.length ≤ 6001 → spRightS.fn [(Prg.v p), .agg (.lst false 6 (BV.set K (SB.v ⟨f1, t1, nx, tk, A, L2⟩)) :: o.map iv)] = some (.s (.bool false)) ∧ spBal.fn [SB.v ⟨f1, t1, nx, tk, A, L2⟩] = some (.s (.bool (balB ⟨f1, t1, nx, tk, A, L2⟩))) := fun L2 hne hL2 => by
      have hsetB : BV.set K (SB.v ⟨f1, t1, nx, tk, A, L2⟩) = (BL.set K ⟨f1, t1, nx, tk, A, L2⟩).map SB.v := by rw [← hBV, List.map_set]
      have hfit3 : sbsFit (BL.set K ⟨f1, t1, nx, tk, A, L2⟩) = true := by
        unfold sbsFit
        simp only [Bool.and_eq_true, decide_eq_true_eq, List.all_eq_true]
        refine ⟨by rw [List.length_set]; omega, fun c hc => ?_⟩
        rcases List.mem_or_eq_of_mem_set hc with hc | rfl
        · exact hfit2 c hc
        · unfold sbFit
          simp only [Bool.and_eq_true, decide_eq_true_eq]
          omega
      have hR := spRightS_v (splOf_v false (BL.set K ⟨f1, t1, nx, tk, A, L2⟩) hol) hfit3 p
      rw [hrne _ ⟨f1, t1, nx, tk, A, L2⟩ K qb (fun e => hne (by injection e)), ← hsetB] at hR
      refine ⟨hR, spBal_v ?_⟩
      unfold sbLit
      simp only [Bool.and_eq_true, decide_eq_true_eq]
      omega
    simp only [Prg.v, SB.v] at hRB
    have hgone : j1 = true → j2 = true → balB ⟨f1, t1, nx, tk, A, E.take I ++ E.drop (I + 1)⟩ = false := fun e1 e2 => by
      rw [← hj1, bne_iff_ne] at e1
      rw [← hj2, bne_iff_ne] at e2
      obtain ⟨b4, hb4, hs4⟩ := hga K _ qb
      refine gone_e cr o hb4 (i := I) (c := u) (by rw [hs4]; exact qu) e1  (by rw [hs4]) (by rw [hs4])
    rcases hW4 with rfl | rfl | rfl | rfl
    · obtain ⟨hR, hB⟩ := hRB (E.take I ++ E.drop (I + 1)) (take_ne hI1) (by rw [List.length_append, List.length_take, List.length_drop]; omega)
      have hcl2 : (E.take I ++ E.drop (I + 1)).length = I + (E.length - (I + 1)) := by rw [List.length_append, List.length_take, List.length_drop]; omega
      obtain ⟨L2, hL2⟩ : ∃ L2, E.take I ++ E.drop (I + 1) = L2 := ⟨_, rfl⟩
      rw [hL2] at hR hB hm1 hgone hcl2
      obtain ⟨bb, hbb⟩ : ∃ bb, balB ⟨f1, t1, nx, tk, A, L2⟩ = bb := ⟨_, rfl⟩
      rw [hbb] at hB hgone
      simp only [go_sem, seval, eq_self, reduceCtorEq, Prg.v, hW, cUb_at, spTrue_mv, spTrue_fn, spSpA_mv, hS, hol, hto, spFew_mv, hF, g1, hBVl, hz, hrem, hquo, wq, zK, hKN2, qbv, hscA, hscE, f6, fA, fE, SB.v, z16, List.replicate, Int.toNat_natCast, List.length_map, hX, g3, hXl, hsc2]
      repeat' ((first | (refine AG_of ?_ ?_ <;> intro h) | (refine AB_of ?_ ?_ <;> intro h)) <;> simp only [go_sem, seval, eq_self, reduceCtorEq, Prg.v, hW, cUb_at, spTrue_mv, spTrue_fn, spSpA_mv, hS, hol, hto, spFew_mv, hF, g1, hBVl, hz, hrem, hquo, wq, zK, hKN2, qbv, hscA, hscE, f6, fA, fE, SB.v, z16, List.replicate, Int.toNat_natCast, List.length_map, hX, g3, hXl, hsc2, h])
      refine A_draw_of [49, 13] [49, 13, 1013049] (by kernel_rfl) ?_
      simp only [go_sem, seval, eq_self, reduceCtorEq, Prg.v, hW, cUb_at, spTrue_mv, spTrue_fn, spSpA_mv, hS, hol, hto, spFew_mv, hF, g1, hBVl, hz, hrem, hquo, wq, zK, hKN2, qbv, hscA, hscE, f6, fA, fE, SB.v, z16, List.replicate, Int.toNat_natCast, List.length_map, hX, g3, hXl, hsc2, hXI, hLz, hremI, zI, hIL, hW]
      repeat' ((first | (refine AG_of ?_ ?_ <;> intro h) | (refine AB_of ?_ ?_ <;> intro h)) <;> simp only [go_sem, seval, eq_self, reduceCtorEq, Prg.v, hW, cUb_at, spTrue_mv, spTrue_fn, spSpA_mv, hS, hol, hto, spFew_mv, hF, g1, hBVl, hz, hrem, hquo, wq, zK, hKN2, qbv, hscA, hscE, f6, fA, fE, SB.v, z16, List.replicate, Int.toNat_natCast, List.length_map, hX, g3, hXl, hsc2, hXI, hLz, hremI, zI, hIL, hW, h])
      refine A_draw_of [100] [100, 105] (by kernel_rfl) ?_
      simp only [go_sem, seval, eq_self, reduceCtorEq, Prg.v, hW, cUb_at, spTrue_mv, spTrue_fn, spSpA_mv, hS, hol, hto, spFew_mv, hF, g1, hBVl, hz, hrem, hquo, wq, zK, hKN2, qbv, hscA, hscE, f6, fA, fE, SB.v, z16, List.replicate, Int.toNat_natCast, List.length_map, hX, hXl, hXI, zI, hIL, hIl0, hIl1, zI1, nI, hsc2, tk1, tk2, dl1, ft1, ft2, in1, in2, Nat.sub_zero, Nat.zero_add, List.drop_zero, hm1]
      repeat' ((first | (refine AG_of ?_ ?_ <;> intro h) | (refine AB_of ?_ ?_ <;> intro h)) <;> simp only [go_sem, seval, eq_self, reduceCtorEq, Prg.v, hW, cUb_at, spTrue_mv, spTrue_fn, spSpA_mv, hS, hol, hto, spFew_mv, hF, g1, hBVl, hz, hrem, hquo, wq, zK, hKN2, qbv, hscA, hscE, f6, fA, fE, SB.v, z16, List.replicate, Int.toNat_natCast, List.length_map, hX, hXl, hXI, zI, hIL, hIl0, hIl1, zI1, nI, hsc2, tk1, tk2, dl1, ft1, ft2, in1, in2, Nat.sub_zero, Nat.zero_add, List.drop_zero, hm1, h])
      cases j1
      ·
        simp only [go_sem, seval, eq_self, reduceCtorEq, Prg.v, hW, cUb_at, spTrue_mv, spTrue_fn, spSpA_mv, hS, hol, hto, spFew_mv, hF, g1, hBVl, hz, hrem, hquo, wq, zK, hKN2, qbv, hscA, hscE, f6, fA, fE, SB.v, z16, List.replicate, Int.toNat_natCast, List.length_map, hX, hXl, hXI, zI, hIL, hIl0, hIl1, zI1, nI, hsc2, tk1, tk2, dl1, ft1, ft2, in1, in2, Nat.sub_zero, Nat.zero_add, List.drop_zero, hm1, hcl2, hex, hKB, hl1, hgs, hBVs, spRightS_mv, hR, spBal_mv, hB, hj1, hj2, List.length_set]
        repeat' ((first | (refine AG_of ?_ ?_ <;> intro h) | (refine AB_of ?_ ?_ <;> intro h) | (refine A_draw_of [] [] (by kernel_rfl) ?_ <;> have h := mark)) <;> simp only [go_sem, seval, eq_self, reduceCtorEq, Prg.v, hW, cUb_at, spTrue_mv, spTrue_fn, spSpA_mv, hS, hol, hto, spFew_mv, hF, g1, hBVl, hz, hrem, hquo, wq, zK, hKN2, qbv, hscA, hscE, f6, fA, fE, SB.v, z16, List.replicate, Int.toNat_natCast, List.length_map, hX, hXl, hXI, zI, hIL, hIl0, hIl1, zI1, nI, hsc2, tk1, tk2, dl1, ft1, ft2, in1, in2, Nat.sub_zero, Nat.zero_add, List.drop_zero, hm1, hcl2, hex, hKB, hl1, hgs, hBVs, spRightS_mv, hR, spBal_mv, hB, hj1, hj2, List.length_set, h])
        all_goals (first | refine fin_ret ?_ | refine fin_normal ?_)
        all_goals simp only [resOf, Tryz.results5, Tryz.ntmps5, go_sem, seval, eq_self, reduceCtorEq]
      · cases j2
        ·
          simp only [go_sem, seval, eq_self, reduceCtorEq, Prg.v, hW, cUb_at, spTrue_mv, spTrue_fn, spSpA_mv, hS, hol, hto, spFew_mv, hF, g1, hBVl, hz, hrem, hquo, wq, zK, hKN2, qbv, hscA, hscE, f6, fA, fE, SB.v, z16, List.replicate, Int.toNat_natCast, List.length_map, hX, hXl, hXI, zI, hIL, hIl0, hIl1, zI1, nI, hsc2, tk1, tk2, dl1, ft1, ft2, in1, in2, Nat.sub_zero, Nat.zero_add, List.drop_zero, hm1, hcl2, hex, hKB, hl1, hgs, hBVs, spRightS_mv, hR, spBal_mv, hB, hj1, hj2, List.length_set]
          repeat' ((first | (refine AG_of ?_ ?_ <;> intro h) | (refine AB_of ?_ ?_ <;> intro h) | (refine A_draw_of [] [] (by kernel_rfl) ?_ <;> have h := mark)) <;> simp only [go_sem, seval, eq_self, reduceCtorEq, Prg.v, hW, cUb_at, spTrue_mv, spTrue_fn, spSpA_mv, hS, hol, hto, spFew_mv, hF, g1, hBVl, hz, hrem, hquo, wq, zK, hKN2, qbv, hscA, hscE, f6, fA, fE, SB.v, z16, List.replicate, Int.toNat_natCast, List.length_map, hX, hXl, hXI, zI, hIL, hIl0, hIl1, zI1, nI, hsc2, tk1, tk2, dl1, ft1, ft2, in1, in2, Nat.sub_zero, Nat.zero_add, List.drop_zero, hm1, hcl2, hex, hKB, hl1, hgs, hBVs, spRightS_mv, hR, spBal_mv, hB, hj1, hj2, List.length_set, h])
          all_goals (first | refine fin_ret ?_ | refine fin_normal ?_)
          all_goals simp only [resOf, Tryz.results5, Tryz.ntmps5, go_sem, seval, eq_self, reduceCtorEq]
        · obtain rfl := hgone rfl rfl
          simp only [go_sem, seval, eq_self, reduceCtorEq, Prg.v, hW, cUb_at, spTrue_mv, spTrue_fn, spSpA_mv, hS, hol, hto, spFew_mv, hF, g1, hBVl, hz, hrem, hquo, wq, zK, hKN2, qbv, hscA, hscE, f6, fA, fE, SB.v, z16, List.replicate, Int.toNat_natCast, List.length_map, hX, hXl, hXI, zI, hIL, hIl0, hIl1, zI1, nI, hsc2, tk1, tk2, dl1, ft1, ft2, in1, in2, Nat.sub_zero, Nat.zero_add, List.drop_zero, hm1, hcl2, hex, hKB, hl1, hgs, hBVs, spRightS_mv, hR, spBal_mv, hB, hj1, hj2, List.length_set]
          repeat' ((first | (refine AG_of ?_ ?_ <;> intro h) | (refine AB_of ?_ ?_ <;> intro h) | (refine A_draw_of [] [] (by kernel_rfl) ?_ <;> have h := mark)) <;> simp only [go_sem, seval, eq_self, reduceCtorEq, Prg.v, hW, cUb_at, spTrue_mv, spTrue_fn, spSpA_mv, hS, hol, hto, spFew_mv, hF, g1, hBVl, hz, hrem, hquo, wq, zK, hKN2, qbv, hscA, hscE, f6, fA, fE, SB.v, z16, List.replicate, Int.toNat_natCast, List.length_map, hX, hXl, hXI, zI, hIL, hIl0, hIl1, zI1, nI, hsc2, tk1, tk2, dl1, ft1, ft2, in1, in2, Nat.sub_zero, Nat.zero_add, List.drop_zero, hm1, hcl2, hex, hKB, hl1, hgs, hBVs, spRightS_mv, hR, spBal_mv, hB, hj1, hj2, List.length_set, h])
          all_goals (first | refine fin_ret ?_ | refine fin_normal ?_)
          all_goals simp only [resOf, Tryz.results5, Tryz.ntmps5, go_sem, seval, eq_self, reduceCtorEq]
    · obtain ⟨hR, hB⟩ := hRB (E.take I ++ E.drop (I + 1)) (take_ne hI1) (by rw [List.length_append, List.length_take, List.length_drop]; omega)
      have hcl2 : (E.take I ++ E.drop (I + 1)).length = I + (E.length - (I + 1)) := by rw [List.length_append, List.length_take, List.length_drop]; omega
      obtain ⟨L2, hL2⟩ : ∃ L2, E.take I ++ E.drop (I + 1) = L2 := ⟨_, rfl⟩
      rw [hL2] at hR hB hm1 hgone hcl2
      obtain ⟨bb, hbb⟩ : ∃ bb, balB ⟨f1, t1, nx, tk, A, L2⟩ = bb := ⟨_, rfl⟩
      rw [hbb] at hB hgone
      simp only [go_sem, seval, eq_self, reduceCtorEq, Prg.v, hW, cUb_at, spTrue_mv, spTrue_fn, spSpA_mv, hS, hol, hto, spFew_mv, hF, g1, hBVl, hz, hrem, hquo, wq, zK, hKN2, qbv, hscA, hscE, f6, fA, fE, SB.v, z16, List.replicate, Int.toNat_natCast, List.length_map, hX, g3, hXl, hsc2]
      repeat' ((first | (refine AG_of ?_ ?_ <;> intro h) | (refine AB_of ?_ ?_ <;> intro h)) <;> simp only [go_sem, seval, eq_self, reduceCtorEq, Prg.v, hW, cUb_at, spTrue_mv, spTrue_fn, spSpA_mv, hS, hol, hto, spFew_mv, hF, g1, hBVl, hz, hrem, hquo, wq, zK, hKN2, qbv, hscA, hscE, f6, fA, fE, SB.v, z16, List.replicate, Int.toNat_natCast, List.length_map, hX, g3, hXl, hsc2, h])
      refine A_draw_of [49, 13] [49, 13, 1013049] (by kernel_rfl) ?_
      simp only [go_sem, seval, eq_self, reduceCtorEq, Prg.v, hW, cUb_at, spTrue_mv, spTrue_fn, spSpA_mv, hS, hol, hto, spFew_mv, hF, g1, hBVl, hz, hrem, hquo, wq, zK, hKN2, qbv, hscA, hscE, f6, fA, fE, SB.v, z16, List.replicate, Int.toNat_natCast, List.length_map, hX, g3, hXl, hsc2, hXI, hLz, hremI, zI, hIL, hW]
      repeat' ((first | (refine AG_of ?_ ?_ <;> intro h) | (refine AB_of ?_ ?_ <;> intro h)) <;> simp only [go_sem, seval, eq_self, reduceCtorEq, Prg.v, hW, cUb_at, spTrue_mv, spTrue_fn, spSpA_mv, hS, hol, hto, spFew_mv, hF, g1, hBVl, hz, hrem, hquo, wq, zK, hKN2, qbv, hscA, hscE, f6, fA, fE, SB.v, z16, List.replicate, Int.toNat_natCast, List.length_map, hX, g3, hXl, hsc2, hXI, hLz, hremI, zI, hIL, hW, h])
      refine A_draw_of [100] [100, 105] (by kernel_rfl) ?_
      simp only [go_sem, seval, eq_self, reduceCtorEq, Prg.v, hW, cUb_at, spTrue_mv, spTrue_fn, spSpA_mv, hS, hol, hto, spFew_mv, hF, g1, hBVl, hz, hrem, hquo, wq, zK, hKN2, qbv, hscA, hscE, f6, fA, fE, SB.v, z16, List.replicate, Int.toNat_natCast, List.length_map, hX, hXl, hXI, zI, hIL, hIl0, hIl1, zI1, nI, hsc2, tk1, tk2, dl1, ft1, ft2, in1, in2, Nat.sub_zero, Nat.zero_add, List.drop_zero, hm1]
      repeat' ((first | (refine AG_of ?_ ?_ <;> intro h) | (refine AB_of ?_ ?_ <;> intro h)) <;> simp only [go_sem, seval, eq_self, reduceCtorEq, Prg.v, hW, cUb_at, spTrue_mv, spTrue_fn, spSpA_mv, hS, hol, hto, spFew_mv, hF, g1, hBVl, hz, hrem, hquo, wq, zK, hKN2, qbv, hscA, hscE, f6, fA, fE, SB.v, z16, List.replicate, Int.toNat_natCast, List.length_map, hX, hXl, hXI, zI, hIL, hIl0, hIl1, zI1, nI, hsc2, tk1, tk2, dl1, ft1, ft2, in1, in2, Nat.sub_zero, Nat.zero_add, List.drop_zero, hm1, h])
      cases j1
      ·
        simp only [go_sem, seval, eq_self, reduceCtorEq, Prg.v, hW, cUb_at, spTrue_mv, spTrue_fn, spSpA_mv, hS, hol, hto, spFew_mv, hF, g1, hBVl, hz, hrem, hquo, wq, zK, hKN2, qbv, hscA, hscE, f6, fA, fE, SB.v, z16, List.replicate, Int.toNat_natCast, List.length_map, hX, hXl, hXI, zI, hIL, hIl0, hIl1, zI1, nI, hsc2, tk1, tk2, dl1, ft1, ft2, in1, in2, Nat.sub_zero, Nat.zero_add, List.drop_zero, hm1, hcl2, hex, hKB, hl1, hgs, hBVs, spRightS_mv, hR, spBal_mv, hB, hj1, hj2, List.length_set]
        repeat' ((first | (refine AG_of ?_ ?_ <;> intro h) | (refine AB_of ?_ ?_ <;> intro h) | (refine A_draw_of [] [] (by kernel_rfl) ?_ <;> have h := mark)) <;> simp only [go_sem, seval, eq_self, reduceCtorEq, Prg.v, hW, cUb_at, spTrue_mv, spTrue_fn, spSpA_mv, hS, hol, hto, spFew_mv, hF, g1, hBVl, hz, hrem, hquo, wq, zK, hKN2, qbv, hscA, hscE, f6, fA, fE, SB.v, z16, List.replicate, Int.toNat_natCast, List.length_map, hX, hXl, hXI, zI, hIL, hIl0, hIl1, zI1, nI, hsc2, tk1, tk2, dl1, ft1, ft2, in1, in2, Nat.sub_zero, Nat.zero_add, List.drop_zero, hm1, hcl2, hex, hKB, hl1, hgs, hBVs, spRightS_mv, hR, spBal_mv, hB, hj1, hj2, List.length_set, h])
        all_goals (first | refine fin_ret ?_ | refine fin_normal ?_)
        all_goals simp only [resOf, Tryz.results5, Tryz.ntmps5, go_sem, seval, eq_self, reduceCtorEq]
      · cases j2
        ·
          simp only [go_sem, seval, eq_self, reduceCtorEq, Prg.v, hW, cUb_at, spTrue_mv, spTrue_fn, spSpA_mv, hS, hol, hto, spFew_mv, hF, g1, hBVl, hz, hrem, hquo, wq, zK, hKN2, qbv, hscA, hscE, f6, fA, fE, SB.v, z16, List.replicate, Int.toNat_natCast, List.length_map, hX, hXl, hXI, zI, hIL, hIl0, hIl1, zI1, nI, hsc2, tk1, tk2, dl1, ft1, ft2, in1, in2, Nat.sub_zero, Nat.zero_add, List.drop_zero, hm1, hcl2, hex, hKB, hl1, hgs, hBVs, spRightS_mv, hR, spBal_mv, hB, hj1, hj2, List.length_set]
          repeat' ((first | (refine AG_of ?_ ?_ <;> intro h) | (refine AB_of ?_ ?_ <;> intro h) | (refine A_draw_of [] [] (by kernel_rfl) ?_ <;> have h := mark)) <;> simp only [go_sem, seval, eq_self, reduceCtorEq, Prg.v, hW, cUb_at, spTrue_mv, spTrue_fn, spSpA_mv, hS, hol, hto, spFew_mv, hF, g1, hBVl, hz, hrem, hquo, wq, zK, hKN2, qbv, hscA, hscE, f6, fA, fE, SB.v, z16, List.replicate, Int.toNat_natCast, List.length_map, hX, hXl, hXI, zI, hIL, hIl0, hIl1, zI1, nI, hsc2, tk1, tk2, dl1, ft1, ft2, in1, in2, Nat.sub_zero, Nat.zero_add, List.drop_zero, hm1, hcl2, hex, hKB, hl1, hgs, hBVs, spRightS_mv, hR, spBal_mv, hB, hj1, hj2, List.length_set, h])
          all_goals (first | refine fin_ret ?_ | refine fin_normal ?_)
          all_goals simp only [resOf, Tryz.results5, Tryz.ntmps5, go_sem, seval, eq_self, reduceCtorEq]
        · obtain rfl := hgone rfl rfl
          simp only [go_sem, seval, eq_self, reduceCtorEq, Prg.v, hW, cUb_at, spTrue_mv, spTrue_fn, spSpA_mv, hS, hol, hto, spFew_mv, hF, g1, hBVl, hz, hrem, hquo, wq, zK, hKN2, qbv, hscA, hscE, f6, fA, fE, SB.v, z16, List.replicate, Int.toNat_natCast, List.length_map, hX, hXl, hXI, zI, hIL, hIl0, hIl1, zI1, nI, hsc2, tk1, tk2, dl1, ft1, ft2, in1, in2, Nat.sub_zero, Nat.zero_add, List.drop_zero, hm1, hcl2, hex, hKB, hl1, hgs, hBVs, spRightS_mv, hR, spBal_mv, hB, hj1, hj2, List.length_set]
          repeat' ((first | (refine AG_of ?_ ?_ <;> intro h) | (refine AB_of ?_ ?_ <;> intro h) | (refine A_draw_of [] [] (by kernel_rfl) ?_ <;> have h := mark)) <;> simp only [go_sem, seval, eq_self, reduceCtorEq, Prg.v, hW, cUb_at, spTrue_mv, spTrue_fn, spSpA_mv, hS, hol, hto, spFew_mv, hF, g1, hBVl, hz, hrem, hquo, wq, zK, hKN2, qbv, hscA, hscE, f6, fA, fE, SB.v, z16, List.replicate, Int.toNat_natCast, List.length_map, hX, hXl, hXI, zI, hIL, hIl0, hIl1, zI1, nI, hsc2, tk1, tk2, dl1, ft1, ft2, in1, in2, Nat.sub_zero, Nat.zero_add, List.drop_zero, hm1, hcl2, hex, hKB, hl1, hgs, hBVs, spRightS_mv, hR, spBal_mv, hB, hj1, hj2, List.length_set, h])
          all_goals (first | refine fin_ret ?_ | refine fin_normal ?_)
          all_goals simp only [resOf, Tryz.results5, Tryz.ntmps5, go_sem, seval, eq_self, reduceCtorEq]
    · obtain ⟨hR, hB⟩ := hRB (E.take I ++ [u] ++ E.drop I) (twice_ne hI1) (by rw [List.length_append, List.length_append, List.length_take, List.length_drop, List.length_singleton]; omega)
      have hcl2 : (E.take I ++ [u] ++ E.drop I).length = I + 1 + (E.length - I) := by rw [List.length_append, List.length_append, List.length_take, List.length_drop, List.length_singleton]; omega
      obtain ⟨L2, hL2⟩ : ∃ L2, E.take I ++ [u] ++ E.drop I = L2 := ⟨_, rfl⟩
      rw [hL2] at hR hm2 hcl2
      simp only [go_sem, seval, eq_self, reduceCtorEq, Prg.v, hW, cUb_at, spTrue_mv, spTrue_fn, spSpA_mv, hS, hol, hto, spFew_mv, hF, g1, hBVl, hz, hrem, hquo, wq, zK, hKN2, qbv, hscA, hscE, f6, fA, fE, SB.v, z16, List.replicate, Int.toNat_natCast, List.length_map, hX, g3, hXl, hsc2]
      repeat' ((first | (refine AG_of ?_ ?_ <;> intro h) | (refine AB_of ?_ ?_ <;> intro h)) <;> simp only [go_sem, seval, eq_self, reduceCtorEq, Prg.v, hW, cUb_at, spTrue_mv, spTrue_fn, spSpA_mv, hS, hol, hto, spFew_mv, hF, g1, hBVl, hz, hrem, hquo, wq, zK, hKN2, qbv, hscA, hscE, f6, fA, fE, SB.v, z16, List.replicate, Int.toNat_natCast, List.length_map, hX, g3, hXl, hsc2, h])
      refine A_draw_of [49, 13] [49, 13, 1013049] (by kernel_rfl) ?_
      simp only [go_sem, seval, eq_self, reduceCtorEq, Prg.v, hW, cUb_at, spTrue_mv, spTrue_fn, spSpA_mv, hS, hol, hto, spFew_mv, hF, g1, hBVl, hz, hrem, hquo, wq, zK, hKN2, qbv, hscA, hscE, f6, fA, fE, SB.v, z16, List.replicate, Int.toNat_natCast, List.length_map, hX, g3, hXl, hsc2, hXI, hLz, hremI, zI, hIL, hW]
      repeat' ((first | (refine AG_of ?_ ?_ <;> intro h) | (refine AB_of ?_ ?_ <;> intro h)) <;> simp only [go_sem, seval, eq_self, reduceCtorEq, Prg.v, hW, cUb_at, spTrue_mv, spTrue_fn, spSpA_mv, hS, hol, hto, spFew_mv, hF, g1, hBVl, hz, hrem, hquo, wq, zK, hKN2, qbv, hscA, hscE, f6, fA, fE, SB.v, z16, List.replicate, Int.toNat_natCast, List.length_map, hX, g3, hXl, hsc2, hXI, hLz, hremI, zI, hIL, hW, h])
      refine A_draw_of [111, 116] [111, 116, 117, 121, 1116111] (by kernel_rfl) ?_
      simp only [go_sem, seval, eq_self, reduceCtorEq, Prg.v, hW, cUb_at, spTrue_mv, spTrue_fn, spSpA_mv, hS, hol, hto, spFew_mv, hF, g1, hBVl, hz, hrem, hquo, wq, zK, hKN2, qbv, hscA, hscE, f6, fA, fE, SB.v, z16, List.replicate, Int.toNat_natCast, List.length_map, hX, hXl, hXI, zI, hIL, hIl0, hIl1, zI1, nI, hsc2, tk1, tkU, tk3, dl2, ft1, ft3, ft4, in1, in3, Nat.sub_zero, Nat.zero_add, List.drop_zero, hm2]
      repeat' ((first | (refine AG_of ?_ ?_ <;> intro h) | (refine AB_of ?_ ?_ <;> intro h)) <;> simp only [go_sem, seval, eq_self, reduceCtorEq, Prg.v, hW, cUb_at, spTrue_mv, spTrue_fn, spSpA_mv, hS, hol, hto, spFew_mv, hF, g1, hBVl, hz, hrem, hquo, wq, zK, hKN2, qbv, hscA, hscE, f6, fA, fE, SB.v, z16, List.replicate, Int.toNat_natCast, List.length_map, hX, hXl, hXI, zI, hIL, hIl0, hIl1, zI1, nI, hsc2, tk1, tkU, tk3, dl2, ft1, ft3, ft4, in1, in3, Nat.sub_zero, Nat.zero_add, List.drop_zero, hm2, h])
      cases j1
      ·
        simp only [go_sem, seval, eq_self, reduceCtorEq, Prg.v, hW, cUb_at, spTrue_mv, spTrue_fn, spSpA_mv, hS, hol, hto, spFew_mv, hF, g1, hBVl, hz, hrem, hquo, wq, zK, hKN2, qbv, hscA, hscE, f6, fA, fE, SB.v, z16, List.replicate, Int.toNat_natCast, List.length_map, hX, hXl, hXI, zI, hIL, hIl0, hIl1, zI1, nI, hsc2, tk1, tkU, tk3, dl2, ft1, ft3, ft4, in1, in3, Nat.sub_zero, Nat.zero_add, List.drop_zero, hm2, hcl2, hex, hKB, hl1, hgs, hBVs, spRightS_mv, hR, hj1, hj2, List.length_set]
        repeat' ((first | (refine AG_of ?_ ?_ <;> intro h) | (refine AB_of ?_ ?_ <;> intro h) | (refine A_draw_of [] [] (by kernel_rfl) ?_ <;> have h := mark)) <;> simp only [go_sem, seval, eq_self, reduceCtorEq, Prg.v, hW, cUb_at, spTrue_mv, spTrue_fn, spSpA_mv, hS, hol, hto, spFew_mv, hF, g1, hBVl, hz, hrem, hquo, wq, zK, hKN2, qbv, hscA, hscE, f6, fA, fE, SB.v, z16, List.replicate, Int.toNat_natCast, List.length_map, hX, hXl, hXI, zI, hIL, hIl0, hIl1, zI1, nI, hsc2, tk1, tkU, tk3, dl2, ft1, ft3, ft4, in1, in3, Nat.sub_zero, Nat.zero_add, List.drop_zero, hm2, hcl2, hex, hKB, hl1, hgs, hBVs, spRightS_mv, hR, hj1, hj2, List.length_set, h])
        all_goals (first | refine fin_ret ?_ | refine fin_normal ?_)
        all_goals simp only [resOf, Tryz.results5, Tryz.ntmps5, go_sem, seval, eq_self, reduceCtorEq]
      · cases j2
        ·
          simp only [go_sem, seval, eq_self, reduceCtorEq, Prg.v, hW, cUb_at, spTrue_mv, spTrue_fn, spSpA_mv, hS, hol, hto, spFew_mv, hF, g1, hBVl, hz, hrem, hquo, wq, zK, hKN2, qbv, hscA, hscE, f6, fA, fE, SB.v, z16, List.replicate, Int.toNat_natCast, List.length_map, hX, hXl, hXI, zI, hIL, hIl0, hIl1, zI1, nI, hsc2, tk1, tkU, tk3, dl2, ft1, ft3, ft4, in1, in3, Nat.sub_zero, Nat.zero_add, List.drop_zero, hm2, hcl2, hex, hKB, hl1, hgs, hBVs, spRightS_mv, hR, hj1, hj2, List.length_set]
          repeat' ((first | (refine AG_of ?_ ?_ <;> intro h) | (refine AB_of ?_ ?_ <;> intro h) | (refine A_draw_of [] [] (by kernel_rfl) ?_ <;> have h := mark)) <;> simp only [go_sem, seval, eq_self, reduceCtorEq, Prg.v, hW, cUb_at, spTrue_mv, spTrue_fn, spSpA_mv, hS, hol, hto, spFew_mv, hF, g1, hBVl, hz, hrem, hquo, wq, zK, hKN2, qbv, hscA, hscE, f6, fA, fE, SB.v, z16, List.replicate, Int.toNat_natCast, List.length_map, hX, hXl, hXI, zI, hIL, hIl0, hIl1, zI1, nI, hsc2, tk1, tkU, tk3, dl2, ft1, ft3, ft4, in1, in3, Nat.sub_zero, Nat.zero_add, List.drop_zero, hm2, hcl2, hex, hKB, hl1, hgs, hBVs, spRightS_mv, hR, hj1, hj2, List.length_set, h])
          all_goals (first | refine fin_ret ?_ | refine fin_normal ?_)
          all_goals simp only [resOf, Tryz.results5, Tryz.ntmps5, go_sem, seval, eq_self, reduceCtorEq]
        ·
          simp only [go_sem, seval, eq_self, reduceCtorEq, Prg.v, hW, cUb_at, spTrue_mv, spTrue_fn, spSpA_mv, hS, hol, hto, spFew_mv, hF, g1, hBVl, hz, hrem, hquo, wq, zK, hKN2, qbv, hscA, hscE, f6, fA, fE, SB.v, z16, List.replicate, Int.toNat_natCast, List.length_map, hX, hXl, hXI, zI, hIL, hIl0, hIl1, zI1, nI, hsc2, tk1, tkU, tk3, dl2, ft1, ft3, ft4, in1, in3, Nat.sub_zero, Nat.zero_add, List.drop_zero, hm2, hcl2, hex, hKB, hl1, hgs, hBVs, spRightS_mv, hR, hj1, hj2, List.length_set]
          repeat' ((first | (refine AG_of ?_ ?_ <;> intro h) | (refine AB_of ?_ ?_ <;> intro h) | (refine A_draw_of [] [] (by kernel_rfl) ?_ <;> have h := mark)) <;> simp only [go_sem, seval, eq_self, reduceCtorEq, Prg.v, hW, cUb_at, spTrue_mv, spTrue_fn, spSpA_mv, hS, hol, hto, spFew_mv, hF, g1, hBVl, hz, hrem, hquo, wq, zK, hKN2, qbv, hscA, hscE, f6, fA, fE, SB.v, z16, List.replicate, Int.toNat_natCast, List.length_map, hX, hXl, hXI, zI, hIL, hIl0, hIl1, zI1, nI, hsc2, tk1, tkU, tk3, dl2, ft1, ft3, ft4, in1, in3, Nat.sub_zero, Nat.zero_add, List.drop_zero, hm2, hcl2, hex, hKB, hl1, hgs, hBVs, spRightS_mv, hR, hj1, hj2, List.length_set, h])
          all_goals (first | refine fin_ret ?_ | refine fin_normal ?_)
          all_goals simp only [resOf, Tryz.results5, Tryz.ntmps5, go_sem, seval, eq_self, reduceCtorEq]
    · obtain ⟨hR, hB⟩ := hRB (E.set I { u with off := IntKind.i64.wrap (u.off + 1) }) (off_ne qu) (by rw [List.length_set]; omega)
      have hcl2 : (E.set I { u with off := IntKind.i64.wrap (u.off + 1) }).length = E.length := by rw [List.length_set]
      obtain ⟨L2, hL2⟩ : ∃ L2, E.set I { u with off := IntKind.i64.wrap (u.off + 1) } = L2 := ⟨_, rfl⟩
      rw [hL2] at hR hm3 hcl2
      simp only [go_sem, seval, eq_self, reduceCtorEq, Prg.v, hW, cUb_at, spTrue_mv, spTrue_fn, spSpA_mv, hS, hol, hto, spFew_mv, hF, g1, hBVl, hz, hrem, hquo, wq, zK, hKN2, qbv, hscA, hscE, f6, fA, fE, SB.v, z16, List.replicate, Int.toNat_natCast, List.length_map, hX, g3, hXl, hsc2]
      repeat' ((first | (refine AG_of ?_ ?_ <;> intro h) | (refine AB_of ?_ ?_ <;> intro h)) <;> simp only [go_sem, seval, eq_self, reduceCtorEq, Prg.v, hW, cUb_at, spTrue_mv, spTrue_fn, spSpA_mv, hS, hol, hto, spFew_mv, hF, g1, hBVl, hz, hrem, hquo, wq, zK, hKN2, qbv, hscA, hscE, f6, fA, fE, SB.v, z16, List.replicate, Int.toNat_natCast, List.length_map, hX, g3, hXl, hsc2, h])
      refine A_draw_of [49, 13] [49, 13, 1013049] (by kernel_rfl) ?_
      simp only [go_sem, seval, eq_self, reduceCtorEq, Prg.v, hW, cUb_at, spTrue_mv, spTrue_fn, spSpA_mv, hS, hol, hto, spFew_mv, hF, g1, hBVl, hz, hrem, hquo, wq, zK, hKN2, qbv, hscA, hscE, f6, fA, fE, SB.v, z16, List.replicate, Int.toNat_natCast, List.length_map, hX, g3, hXl, hsc2, hXI, hLz, hremI, zI, hIL, hW]
      repeat' ((first | (refine AG_of ?_ ?_ <;> intro h) | (refine AB_of ?_ ?_ <;> intro h)) <;> simp only [go_sem, seval, eq_self, reduceCtorEq, Prg.v, hW, cUb_at, spTrue_mv, spTrue_fn, spSpA_mv, hS, hol, hto, spFew_mv, hF, g1, hBVl, hz, hrem, hquo, wq, zK, hKN2, qbv, hscA, hscE, f6, fA, fE, SB.v, z16, List.replicate, Int.toNat_natCast, List.length_map, hX, g3, hXl, hsc2, hXI, hLz, hremI, zI, hIL, hW, h])
      cases j1
      ·
        simp only [go_sem, seval, eq_self, reduceCtorEq, Prg.v, hW, cUb_at, spTrue_mv, spTrue_fn, spSpA_mv, hS, hol, hto, spFew_mv, hF, g1, hBVl, hz, hrem, hquo, wq, zK, hKN2, qbv, hscA, hscE, f6, fA, fE, SB.v, z16, List.replicate, Int.toNat_natCast, List.length_map, hX, hXl, hXI, zI, hIL, hIl0, hIl1, zI1, nI, hsc2, hm3, hcl2, hex, hKB, hl1, hgs, hBVs, spRightS_mv, hR, hj1, hj2, List.length_set]
        repeat' ((first | (refine AG_of ?_ ?_ <;> intro h) | (refine AB_of ?_ ?_ <;> intro h) | (refine A_draw_of [] [] (by kernel_rfl) ?_ <;> have h := mark)) <;> simp only [go_sem, seval, eq_self, reduceCtorEq, Prg.v, hW, cUb_at, spTrue_mv, spTrue_fn, spSpA_mv, hS, hol, hto, spFew_mv, hF, g1, hBVl, hz, hrem, hquo, wq, zK, hKN2, qbv, hscA, hscE, f6, fA, fE, SB.v, z16, List.replicate, Int.toNat_natCast, List.length_map, hX, hXl, hXI, zI, hIL, hIl0, hIl1, zI1, nI, hsc2, hm3, hcl2, hex, hKB, hl1, hgs, hBVs, spRightS_mv, hR, hj1, hj2, List.length_set, h])
        all_goals (first | refine fin_ret ?_ | refine fin_normal ?_)
        all_goals simp only [resOf, Tryz.results5, Tryz.ntmps5, go_sem, seval, eq_self, reduceCtorEq]
      · cases j2
        ·
          simp only [go_sem, seval, eq_self, reduceCtorEq, Prg.v, hW, cUb_at, spTrue_mv, spTrue_fn, spSpA_mv, hS, hol, hto, spFew_mv, hF, g1, hBVl, hz, hrem, hquo, wq, zK, hKN2, qbv, hscA, hscE, f6, fA, fE, SB.v, z16, List.replicate, Int.toNat_natCast, List.length_map, hX, hXl, hXI, zI, hIL, hIl0, hIl1, zI1, nI, hsc2, hm3, hcl2, hex, hKB, hl1, hgs, hBVs, spRightS_mv, hR, hj1, hj2, List.length_set]
          repeat' ((first | (refine AG_of ?_ ?_ <;> intro h) | (refine AB_of ?_ ?_ <;> intro h) | (refine A_draw_of [] [] (by kernel_rfl) ?_ <;> have h := mark)) <;> simp only [go_sem, seval, eq_self, reduceCtorEq, Prg.v, hW, cUb_at, spTrue_mv, spTrue_fn, spSpA_mv, hS, hol, hto, spFew_mv, hF, g1, hBVl, hz, hrem, hquo, wq, zK, hKN2, qbv, hscA, hscE, f6, fA, fE, SB.v, z16, List.replicate, Int.toNat_natCast, List.length_map, hX, hXl, hXI, zI, hIL, hIl0, hIl1, zI1, nI, hsc2, hm3, hcl2, hex, hKB, hl1, hgs, hBVs, spRightS_mv, hR, hj1, hj2, List.length_set, h])
          all_goals (first | refine fin_ret ?_ | refine fin_normal ?_)
          all_goals simp only [resOf, Tryz.results5, Tryz.ntmps5, go_sem, seval, eq_self, reduceCtorEq]
        ·
          simp only [go_sem, seval, eq_self, reduceCtorEq, Prg.v, hW, cUb_at, spTrue_mv, spTrue_fn, spSpA_mv, hS, hol, hto, spFew_mv, hF, g1, hBVl, hz, hrem, hquo, wq, zK, hKN2, qbv, hscA, hscE, f6, fA, fE, SB.v, z16, List.replicate, Int.toNat_natCast, List.length_map, hX, hXl, hXI, zI, hIL, hIl0, hIl1, zI1, nI, hsc2, hm3, hcl2, hex, hKB, hl1, hgs, hBVs, spRightS_mv, hR, hj1, hj2, List.length_set]
          repeat' ((first | (refine AG_of ?_ ?_ <;> intro h) | (refine AB_of ?_ ?_ <;> intro h) | (refine A_draw_of [] [] (by kernel_rfl) ?_ <;> have h := mark)) <;> simp only [go_sem, seval, eq_self, reduceCtorEq, Prg.v, hW, cUb_at, spTrue_mv, spTrue_fn, spSpA_mv, hS, hol, hto, spFew_mv, hF, g1, hBVl, hz, hrem, hquo, wq, zK, hKN2, qbv, hscA, hscE, f6, fA, fE, SB.v, z16, List.replicate, Int.toNat_natCast, List.length_map, hX, hXl, hXI, zI, hIL, hIl0, hIl1, zI1, nI, hsc2, hm3, hcl2, hex, hKB, hl1, hgs, hBVs, spRightS_mv, hR, hj1, hj2, List.length_set, h])
          all_goals (first | refine fin_ret ?_ | refine fin_normal ?_)
          all_goals simp only [resOf, Tryz.results5, Tryz.ntmps5, go_sem, seval, eq_self, reduceCtorEq]
theorem ctu_ok {x : V} (h : ∃ p, prgOf x = some p ∧ p.data.all byte = true ∧ (∀ i ∈ p.code, WfI i) ∧ p.code.length ≤ maxLen ∧ p.data.length ≤ maxLen) {m n : Int} (hm : (Lit.int .i64 m).wf = true) (b : Bool) : spCTu.fn [x, .s (.int .i64 m), .s (.int .i64 n), .s (.bool b)] = some (.s (.bool true)) := by
  obtain ⟨p, hp, _⟩ := h
  have h1 := wf_i64 hm
  simp only [spCTu, hp, Option.bind_some]
  rw [if_pos (by omega)]

end Go.Proofs.YtkfmecmmbnehjaaGreat
