/-
The plain law of EmitPairs: how many cells of each kind an instruction has. No condition.
-/
import Derived.Test.YtnhpkdkffpagdaaEf
namespace Go.Proofs.Ytnhpkdkffpagdaa
set_option linter.unusedSimpArgs false
set_option linter.unusedVariables false

def zero13 : List Int := [0, 0, 0, 0, 0, 0, 0, 0, 0, 0, 0, 0, 0]
def cntF (n : List Int) (c : Cell) : List Int := n.set c.kind.toNat (oAt n c.kind + 1)
/-- how many there are of each kind -/
def cntS (l : List Cell) : List Int := l.foldl cntF zero13
def regsOf (k : Int) (l : List Cell) : List Int := (l.filter fun c => c.kind == k).map (·.reg)
theorem cntF_len (l : List Cell) (n : List Int) : (l.foldl cntF n).length = n.length := by
  induction l generalizing n with
  | nil => rfl
  | cons c l ih => rw [List.foldl_cons, ih, cntF, List.length_set]
theorem cntS_len (l : List Cell) : (cntS l).length = 13 := cntF_len l _
theorem cntF_bd (l : List Cell) (n : List Int) (B : Int) (h : ∀ j : Nat, 0 ≤ oAt n j ∧ oAt n j ≤ B) (hk : ∀ c ∈ l, 0 ≤ c.kind ∧ c.kind < n.length) (j : Nat) : 0 ≤ oAt (l.foldl cntF n) j ∧ oAt (l.foldl cntF n) j ≤ B + l.length := by
  induction l generalizing n B with
  | nil => have := h j; simp; omega
  | cons c l ih =>
    have hc := hk c (by simp)
    have := ih (cntF n c) (B + 1) (fun j => by
      have h1 := h j
      have h2 := h c.kind.toNat
      have e : oAt n c.kind = oAt n (c.kind.toNat : Nat) := by rw [Int.toNat_of_nonneg hc.1]
      unfold cntF
      rw [oAt_set (by omega)]
      split
      · rw [e]; omega
      · omega) (fun c' hc' => by unfold cntF; rw [List.length_set]; exact hk c' (by simp [hc']))
    rw [List.foldl_cons]
    simp only [List.length_cons]
    omega
theorem cntS_bd (l : List Cell) (hk : ∀ c ∈ l, 1 ≤ c.kind ∧ c.kind ≤ 12) (j : Nat) : 0 ≤ oAt (cntS l) j ∧ oAt (cntS l) j ≤ l.length := by
  have := cntF_bd l zero13 0 (fun j => by
    have : oAt zero13 j = 0 := by
      unfold oAt
      rw [List.getD_eq_getElem?_getD]
      cases h : zero13[((j : Int)).toNat]? with
      | none => rfl
      | some v =>
        have := List.mem_of_getElem? h
        simp [zero13] at this
        rw [this]; rfl
    omega) (fun c hc => by have := hk c hc; have : zero13.length = 13 := rfl; omega) j
  unfold cntS
  omega
theorem cntS_snoc (l : List Cell) (c : Cell) : cntS (l ++ [c]) = (cntS l).set c.kind.toNat (oAt (cntS l) c.kind + 1) := by
  unfold cntS
  rw [List.foldl_append]; rfl

structure PairsOk (f : Int) (o : List Int) (pc off : Int) (A E : List Cell) : Prop where
  la : A.length ≤ 3
  le : E.length ≤ 3
  ka : ∀ c ∈ A, 1 ≤ c.kind ∧ c.kind ≤ 12 ∧ c.pc = pc ∧ c.off = off
  ke : ∀ c ∈ E, 1 ≤ c.kind ∧ c.kind ≤ 12 ∧ c.pc = pc ∧ c.off = off
  sr : regsOf 5 A = regsOf 6 E
  on : ∀ r ∈ regsOf 5 A, 0 ≤ r ∧ r < 16 ∧ oAt o r = 1
  p1 : oAt (cntS A) 2 + oAt (cntS A) 3 = 1 ↔ f = 4
  p2 : oAt (cntS A) 3 = oAt (cntS E) 7
  p3 : oAt (cntS A) 4 = 1 ↔ f = 5
  p4 : oAt (cntS A) 4 = oAt (cntS E) 8
  p5 : oAt (cntS A) 9 + oAt (cntS E) 9 = oAt (cntS A) 10 + oAt (cntS E) 10
  p6 : oAt (cntS A) 9 + oAt (cntS E) 9 = 1 ↔ f = 6
  p7 : oAt (cntS A) 1 + oAt (cntS E) 1 = 1 ↔ f ≤ 3
  p8 : oAt (cntS A) 11 = oAt (cntS E) 11
  p9 : oAt (cntS A) 11 = 1 ↔ f = 7
  p10 : oAt (cntS A) 12 = oAt (cntS E) 12
  p11 : oAt (cntS A) 12 = 1 ↔ f = 8
theorem sent_on (i : Ins) (o : List Int) : ∀ r ∈ sentL i o, 0 ≤ r ∧ r < 16 ∧ oAt o r = 1 := by
  have h := reads_len i
  have hb : ∀ r ∈ readsL i, 1 ≤ r ∧ r < 16 := fun r hr => reads_bd hr
  unfold sentL
  match readsL i, h, hb with
  | [], _, _ => simp [sentF]
  | [r], _, hb =>
    have h1 := hb r (by simp)
    simp only [sentF, List.foldl_cons, List.foldl_nil]
    split
    · rename_i q; simp at q; simp; omega
    · simp
  | [r, r'], _, hb =>
    have h1 := hb r (by simp)
    have h2 := hb r' (by simp)
    intro x hx
    simp only [sentF, List.foldl_cons, List.foldl_nil] at hx
    (repeat' split at hx) <;> simp_all <;> first | omega | (rcases hx with rfl | rfl <;> omega)
theorem pairs_ok {i : Ins} (h : rightB i = true) (o : List Int) (pc off : Int) : PairsOk (form i.op) o pc off (aCells i o pc off) (eCells i o pc off) := by
  have hf := form_cases h
  have hs := sent_on i o
  have hl := sent_len i o
  have hft := right_fit h
  have hb : onI o i.b = 1 → 0 ≤ i.b ∧ i.b < 16 ∧ oAt o i.b = 1 := fun e => by
    have := hft.b0; have := hft.b1
    unfold onI at e
    split at e
    · omega
    · exact ⟨by omega, by omega, e⟩
  rcases hf with hf | hf | hf | hf | hf | hf | hf | hf <;> rw [hf]
  · by_cases p1 : sideI i o = 1
    ·
        have e1 : aCells i o pc off = [cI 1 i pc off] := by simp [aCells, h, hf, p1]
        have e2 : eCells i o pc off = [] := by simp [eCells, h, hf, p1]
        rw [e1, e2]
        constructor <;> (try simp [cntS, cntF, regsOf, zero13, cI, cR, cB, oAt]) <;> (try simp_all [oAt]) <;> (try omega)
    ·
        obtain ⟨s, hse⟩ : ∃ s, sentL i o = s := ⟨_, rfl⟩
        rw [hse] at hs hl
        match s, hl, hs, hse with
        | [], _, hs, hse =>
          have e1 : aCells i o pc off = [] := by simp [aCells, h, hf, p1, hse]
          have e2 : eCells i o pc off = [cI 1 i pc off] := by simp [eCells, h, hf, p1, hse]
          rw [e1, e2]
          constructor <;> (try simp [cntS, cntF, regsOf, zero13, cI, cR, cB, oAt]) <;> (try simp_all [oAt]) <;> (try omega)
        | [r], _, hs, hse =>
          have hs1 := hs r (by simp)
          have e1 : aCells i o pc off = [cR 5 r pc off] := by simp [aCells, h, hf, p1, hse]
          have e2 : eCells i o pc off = [cR 6 r pc off, cI 1 i pc off] := by simp [eCells, h, hf, p1, hse]
          rw [e1, e2]
          constructor <;> (try simp [cntS, cntF, regsOf, zero13, cI, cR, cB, oAt]) <;> (try simp_all [oAt]) <;> (try omega)
        | [r, r'], _, hs, hse =>
          have hs1 := hs r (by simp)
          have hs2 := hs r' (by simp)
          have e1 : aCells i o pc off = [cR 5 r pc off, cR 5 r' pc off] := by simp [aCells, h, hf, p1, hse]
          have e2 : eCells i o pc off = [cR 6 r pc off, cR 6 r' pc off, cI 1 i pc off] := by simp [eCells, h, hf, p1, hse]
          rw [e1, e2]
          constructor <;> (try simp [cntS, cntF, regsOf, zero13, cI, cR, cB, oAt]) <;> (try simp_all [oAt]) <;> (try omega)
  · by_cases p1 : sideI i o = 1
    ·
        have e1 : aCells i o pc off = [cI 1 i pc off] := by simp [aCells, h, hf, p1]
        have e2 : eCells i o pc off = [] := by simp [eCells, h, hf, p1]
        rw [e1, e2]
        constructor <;> (try simp [cntS, cntF, regsOf, zero13, cI, cR, cB, oAt]) <;> (try simp_all [oAt]) <;> (try omega)
    ·
        obtain ⟨s, hse⟩ : ∃ s, sentL i o = s := ⟨_, rfl⟩
        rw [hse] at hs hl
        match s, hl, hs, hse with
        | [], _, hs, hse =>
          have e1 : aCells i o pc off = [] := by simp [aCells, h, hf, p1, hse]
          have e2 : eCells i o pc off = [cI 1 i pc off] := by simp [eCells, h, hf, p1, hse]
          rw [e1, e2]
          constructor <;> (try simp [cntS, cntF, regsOf, zero13, cI, cR, cB, oAt]) <;> (try simp_all [oAt]) <;> (try omega)
        | [r], _, hs, hse =>
          have hs1 := hs r (by simp)
          have e1 : aCells i o pc off = [cR 5 r pc off] := by simp [aCells, h, hf, p1, hse]
          have e2 : eCells i o pc off = [cR 6 r pc off, cI 1 i pc off] := by simp [eCells, h, hf, p1, hse]
          rw [e1, e2]
          constructor <;> (try simp [cntS, cntF, regsOf, zero13, cI, cR, cB, oAt]) <;> (try simp_all [oAt]) <;> (try omega)
        | [r, r'], _, hs, hse =>
          have hs1 := hs r (by simp)
          have hs2 := hs r' (by simp)
          have e1 : aCells i o pc off = [cR 5 r pc off, cR 5 r' pc off] := by simp [aCells, h, hf, p1, hse]
          have e2 : eCells i o pc off = [cR 6 r pc off, cR 6 r' pc off, cI 1 i pc off] := by simp [eCells, h, hf, p1, hse]
          rw [e1, e2]
          constructor <;> (try simp [cntS, cntF, regsOf, zero13, cI, cR, cB, oAt]) <;> (try simp_all [oAt]) <;> (try omega)
  · by_cases p1 : sideI i o = 1
    ·
        have e1 : aCells i o pc off = [cI 1 i pc off] := by simp [aCells, h, hf, p1]
        have e2 : eCells i o pc off = [] := by simp [eCells, h, hf, p1]
        rw [e1, e2]
        constructor <;> (try simp [cntS, cntF, regsOf, zero13, cI, cR, cB, oAt]) <;> (try simp_all [oAt]) <;> (try omega)
    ·
        obtain ⟨s, hse⟩ : ∃ s, sentL i o = s := ⟨_, rfl⟩
        rw [hse] at hs hl
        match s, hl, hs, hse with
        | [], _, hs, hse =>
          have e1 : aCells i o pc off = [] := by simp [aCells, h, hf, p1, hse]
          have e2 : eCells i o pc off = [cI 1 i pc off] := by simp [eCells, h, hf, p1, hse]
          rw [e1, e2]
          constructor <;> (try simp [cntS, cntF, regsOf, zero13, cI, cR, cB, oAt]) <;> (try simp_all [oAt]) <;> (try omega)
        | [r], _, hs, hse =>
          have hs1 := hs r (by simp)
          have e1 : aCells i o pc off = [cR 5 r pc off] := by simp [aCells, h, hf, p1, hse]
          have e2 : eCells i o pc off = [cR 6 r pc off, cI 1 i pc off] := by simp [eCells, h, hf, p1, hse]
          rw [e1, e2]
          constructor <;> (try simp [cntS, cntF, regsOf, zero13, cI, cR, cB, oAt]) <;> (try simp_all [oAt]) <;> (try omega)
        | [r, r'], _, hs, hse =>
          have hs1 := hs r (by simp)
          have hs2 := hs r' (by simp)
          have e1 : aCells i o pc off = [cR 5 r pc off, cR 5 r' pc off] := by simp [aCells, h, hf, p1, hse]
          have e2 : eCells i o pc off = [cR 6 r pc off, cR 6 r' pc off, cI 1 i pc off] := by simp [eCells, h, hf, p1, hse]
          rw [e1, e2]
          constructor <;> (try simp [cntS, cntF, regsOf, zero13, cI, cR, cB, oAt]) <;> (try simp_all [oAt]) <;> (try omega)
  · by_cases p1 : onI o i.d = 2
    ·
      have e1 : aCells i o pc off = [cI 3 i pc off] := by simp [aCells, h, hf, p1]
      have e2 : eCells i o pc off = [cI 7 i pc off] := by simp [eCells, h, hf, p1]
      rw [e1, e2]
      constructor <;> (try simp [cntS, cntF, regsOf, zero13, cI, cR, cB, oAt]) <;> (try simp_all [oAt]) <;> (try omega)
    ·
      have e1 : aCells i o pc off = [cI 2 i pc off] := by simp [aCells, h, hf, p1]
      have e2 : eCells i o pc off = [] := by simp [eCells, h, hf, p1]
      rw [e1, e2]
      constructor <;> (try simp [cntS, cntF, regsOf, zero13, cI, cR, cB, oAt]) <;> (try simp_all [oAt]) <;> (try omega)
  · by_cases p1 : onI o i.b = 1
    · have hb := hb p1
      have e1 : aCells i o pc off = [cR 5 i.b pc off, cI 4 i pc off] := by simp [aCells, h, hf, p1]
      have e2 : eCells i o pc off = [cR 6 i.b pc off, cR 8 i.b pc off] := by simp [eCells, h, hf, p1]
      rw [e1, e2]
      constructor <;> (try simp [cntS, cntF, regsOf, zero13, cI, cR, cB, oAt]) <;> (try simp_all [oAt]) <;> (try omega)
    ·
      have e1 : aCells i o pc off = [cI 4 i pc off] := by simp [aCells, h, hf, p1]
      have e2 : eCells i o pc off = [cR 8 i.b pc off] := by simp [eCells, h, hf, p1]
      rw [e1, e2]
      constructor <;> (try simp [cntS, cntF, regsOf, zero13, cI, cR, cB, oAt]) <;> (try simp_all [oAt]) <;> (try omega)
  · cases p1 : onEB i o
    ·
      have e1 : aCells i o pc off = [cI 9 i pc off] := by simp [aCells, h, hf, p1]
      have e2 : eCells i o pc off = [cB 10 pc off] := by simp [eCells, h, hf, p1]
      rw [e1, e2]
      constructor <;> (try simp [cntS, cntF, regsOf, zero13, cI, cR, cB, oAt]) <;> (try simp_all [oAt]) <;> (try omega)
    ·
      obtain ⟨s, hse⟩ : ∃ s, sentL i o = s := ⟨_, rfl⟩
      rw [hse] at hs hl
      match s, hl, hs, hse with
      | [], _, hs, hse =>
        have e1 : aCells i o pc off = [cB 10 pc off] := by simp [aCells, h, hf, p1, hse]
        have e2 : eCells i o pc off = [cI 9 i pc off] := by simp [eCells, h, hf, p1, hse]
        rw [e1, e2]
        constructor <;> (try simp [cntS, cntF, regsOf, zero13, cI, cR, cB, oAt]) <;> (try simp_all [oAt]) <;> (try omega)
      | [r], _, hs, hse =>
        have hs1 := hs r (by simp)
        have e1 : aCells i o pc off = [cR 5 r pc off, cB 10 pc off] := by simp [aCells, h, hf, p1, hse]
        have e2 : eCells i o pc off = [cR 6 r pc off, cI 9 i pc off] := by simp [eCells, h, hf, p1, hse]
        rw [e1, e2]
        constructor <;> (try simp [cntS, cntF, regsOf, zero13, cI, cR, cB, oAt]) <;> (try simp_all [oAt]) <;> (try omega)
      | [r, r'], _, hs, hse =>
        have hs1 := hs r (by simp)
        have hs2 := hs r' (by simp)
        have e1 : aCells i o pc off = [cR 5 r pc off, cR 5 r' pc off, cB 10 pc off] := by simp [aCells, h, hf, p1, hse]
        have e2 : eCells i o pc off = [cR 6 r pc off, cR 6 r' pc off, cI 9 i pc off] := by simp [eCells, h, hf, p1, hse]
        rw [e1, e2]
        constructor <;> (try simp [cntS, cntF, regsOf, zero13, cI, cR, cB, oAt]) <;> (try simp_all [oAt]) <;> (try omega)
  ·
    have e1 : aCells i o pc off = [cB 11 pc off] := by simp [aCells, h, hf]
    have e2 : eCells i o pc off = [cB 11 pc off] := by simp [eCells, h, hf]
    rw [e1, e2]
    constructor <;> (try simp [cntS, cntF, regsOf, zero13, cI, cR, cB, oAt]) <;> (try simp_all [oAt]) <;> (try omega)
  ·
    have e1 : aCells i o pc off = [cB 12 pc off] := by simp [aCells, h, hf]
    have e2 : eCells i o pc off = [cB 12 pc off] := by simp [eCells, h, hf]
    rw [e1, e2]
    constructor <;> (try simp [cntS, cntF, regsOf, zero13, cI, cR, cB, oAt]) <;> (try simp_all [oAt]) <;> (try omega)

end Go.Proofs.Ytnhpkdkffpagdaa
