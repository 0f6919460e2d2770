/-
The reference's Leaders by the plain reckoning. No condition.
-/
import Derived.Test.YtalcmfmhifcaeaaBc
namespace Go.Proofs.Ytalcmfmhifcaeaa
set_option linter.unusedSimpArgs false
set_option linter.unusedVariables false

def bv (b : Bool) : V := .s (.bool b)
def spEnds : Spec := ⟨[], fun xs => match xs with
  | [.agg [.s (.int .i64 op), .s (.int .i64 d), .s (.int .i64 a), .s (.int .i64 b), .s (.int .i64 imm)]] => some (.s (.bool (endB ⟨op, d, a, b, imm⟩)))
  | _ => none⟩
theorem spEnds_mv : spEnds.mv = [] := rfl
theorem spEnds_fn (op d a b imm : Int) : spEnds.fn [.agg [.s (.int .i64 op), .s (.int .i64 d), .s (.int .i64 a), .s (.int .i64 b), .s (.int .i64 imm)]] = some (.s (.bool (endB ⟨op, d, a, b, imm⟩))) := rfl
theorem cImg8_b : cImg8 24 = some spForm ∧ cImg8 41 = some spForm ∧ cImg8 14 = some spRTarget ∧ cImg8 8 = some spRightP := ⟨rfl, rfl, rfl, rfl⟩
def cB2 : Orc := cImg8
theorem cB2_ok : ∀ g sp, cB2 g = some sp → Impl Try.prog g sp := cImg8_ok
theorem cB2_at : cB2 14 = some spRTarget ∧ cB2 8 = some spRightP := ⟨rfl, rfl⟩

def flF (p : Prg) (k : Nat) : List Bool := (List.range p.code.length).map (flagAt p k)
theorem flF_len (p : Prg) (k : Nat) : (flF p k).length = p.code.length := by simp [flF]
theorem flF_get (p : Prg) (k : Nat) {j : Nat} (h : j < p.code.length) : (flF p k)[j]? = some (flagAt p k j) := by
  unfold flF
  rw [List.getElem?_map, List.getElem?_range h]; rfl
theorem flF_zero (p : Prg) : (List.replicate p.code.length false).set 0 true = flF p 0 := by
  apply List.ext_getElem?
  intro j
  rcases Nat.lt_or_ge j p.code.length with h | h
  · rw [flF_get p 0 h, List.getElem?_set]
    split
    · rename_i e; subst e; simp [h, flagAt]
    · rename_i e
      rw [List.getElem?_replicate, if_pos h]
      have : (j == 0) = false := by simp; omega
      have h2 : decide (j ≤ 0) = false := by simp; omega
      simp [flagAt, this, h2]
      intro a b; omega
  · rw [List.getElem?_eq_none (by simpa using h), List.getElem?_eq_none (by rw [flF_len]; exact h)]
theorem flag_succ (p : Prg) (k j : Nat) : flagAt p (k + 1) j = (flagAt p k j || (tgt p k == some j) || (j == k + 1 && endAt p k)) := by
  unfold flagAt
  rw [List.range_succ, List.any_append]
  simp only [List.any_cons, List.any_nil, Bool.or_false]
  by_cases hj : j = k + 1
  · subst hj
    have : ¬ k + 1 ≤ k := by omega
    simp [this]
  · have e1 : decide (j ≤ k + 1) = decide (j ≤ k) := by rw [decide_eq_decide]; omega
    have e2 : (j == k + 1) = false := by simpa using hj
    rw [e1, e2]
    cases (j == 0) <;> cases (List.range k).any (fun n => tgt p n == some j) <;> cases (tgt p k == some j) <;> cases (decide (0 < j) && decide (j ≤ k) && endAt p (j - 1)) <;> rfl
/-- the flags behind an instruction -/
def flS (f : List Bool) (t : Option Nat) (e : Option Nat) : List Bool :=
  let f1 := match t with | some t => f.set t true | none => f
  match e with | some e => f1.set e true | none => f1
theorem flF_succ (p : Prg) (k : Nat) : flF p (k + 1) = flS (flF p k) (tgt p k) (if endAt p k = true ∧ k + 1 < p.code.length then some (k + 1) else none) := by
  apply List.ext_getElem?
  intro j
  have hl : (flS (flF p k) (tgt p k) (if endAt p k = true ∧ k + 1 < p.code.length then some (k + 1) else none)).length = p.code.length := by
    unfold flS
    cases tgt p k <;> simp only <;> split <;> simp [flF_len]
  rcases Nat.lt_or_ge j p.code.length with h | h
  · rw [flF_get p _ h, flag_succ]
    have h1 : (match tgt p k with | some t => (flF p k).set t true | none => flF p k)[j]? = some (flagAt p k j || (tgt p k == some j)) := by
      cases ht : tgt p k with
      | none => rw [flF_get p k h]; simp
      | some t =>
        rw [List.getElem?_set]
        split
        · rename_i e; subst e; simp [flF_len, h]
        · rename_i e
          rw [flF_get p k h]
          have : (some t == some j) = false := by simpa using e
          rw [this, Bool.or_false]
    unfold flS
    simp only
    by_cases he : endAt p k = true ∧ k + 1 < p.code.length
    · rw [if_pos he]
      simp only
      rw [List.getElem?_set]
      split
      · rename_i e
        subst e
        have : (match tgt p k with | some t => (flF p k).set t true | none => flF p k).length = p.code.length := by cases tgt p k <;> simp [flF_len]
        rw [this]
        simp [h, he.1]
      · rename_i e
        rw [h1]
        have : (j == k + 1) = false := by simp; omega
        rw [this]; simp
    · rw [if_neg he]
      simp only
      rw [h1]
      by_cases hj : j = k + 1
      · subst hj
        have : endAt p k = false := by cases hc : endAt p k with | false => rfl | true => exact absurd ⟨hc, h⟩ he
        rw [this]; simp
      · have : (j == k + 1) = false := by simpa using hj
        rw [this]; simp
  · rw [List.getElem?_eq_none (by rw [flF_len]; exact h), List.getElem?_eq_none (by rw [hl]; exact h)]
theorem scal_bools (l : List Bool) : (l.map bv).all V.scal = true := by
  rw [List.all_eq_true]; intro x hx; obtain ⟨b, _, rfl⟩ := List.mem_map.1 hx; rfl
/-- a row of numbers that grows from nothing at a place -/
def RowN (x : V) (b : Nat) (k : Blk) (l : List Int) : Prop :=
  (l = [] ∧ x = .s (.slice none 0 0)) ∨ (l ≠ [] ∧ ∃ v, x = .sw b v l.length ∧ k = ⟨v, .row 1 3 (l.map iv)⟩)
theorem RowN.same {x x' : V} {b : Nat} {k k' : Blk} {l : List Int} (h : RowN x b k l) (hx : x' = x) (hk : k' = k) : RowN x' b k' l := by rw [hx, hk]; exact h
def firstL (p : Prg) (k : Nat) : List Int := ((List.range k).filter (isLead p)).map fun (k : Nat) => (k : Int)
theorem firstL_succ (p : Prg) (k : Nat) : firstL p (k + 1) = if isLead p k = true then firstL p k ++ [(k : Int)] else firstL p k := by
  unfold firstL
  rw [List.range_succ, List.filter_append, List.map_append]
  by_cases h : isLead p k = true
  · rw [if_pos h]; simp [List.filter_cons, h]
  · rw [if_neg h]; simp [List.filter_cons, h]
theorem firstL_len (p : Prg) (k : Nat) : (firstL p k).length ≤ k := by
  unfold firstL
  rw [List.length_map]
  have := List.length_filter_le (isLead p) (List.range k)
  simpa using this
def rlI1 (p : Prg) (v : Nat) (s : S) : Prop :=
  s.env 1 = .ptr 1 1 0 ∧ s.st 1 = ⟨1, .box (prgB p)⟩ ∧ s.env 3 = .sw 14 v p.code.length ∧ ∃ k : Nat, s.env 4 = .s (.int .i64 k) ∧ k ≤ p.code.length ∧ s.st 14 = ⟨v, .row 1 4 ((flF p k).map bv)⟩
def rlI2 (p : Prg) (v : Nat) (s : S) : Prop :=
  s.env 3 = .sw 14 v p.code.length ∧ s.st 14 = ⟨v, .row 1 4 ((flF p p.code.length).map bv)⟩ ∧ ∃ k : Nat, s.env 7 = .s (.int .i64 k) ∧ k ≤ p.code.length ∧ RowN (s.env 6) 63 (s.st 63) (firstL p k)
theorem spLead_v (p : Prg) : spLead.fn [p.v] = some (if rightP p = true then .lst true 1 ((leadL p).map iv) else .s (.slice none 0 0)) := by
  simp only [spLead, prgOf_v, Option.bind_some]
  split
  · rename_i h; rw [leadC_eq h]
  · rfl

end Go.Proofs.Ytalcmfmhifcaeaa
