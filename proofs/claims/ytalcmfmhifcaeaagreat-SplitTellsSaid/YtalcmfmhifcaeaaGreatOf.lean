/-
The laws of chapter 11: Owners, with, OwnerLeast. No condition.
-/
import Derived.Test.YtalcmfmhifcaeaaGreatOd
import Derived.Test.YtalcmfmhifcaeaaGreatOe
namespace Go.Proofs.YtalcmfmhifcaeaaGreat
set_option linter.unusedSimpArgs false
set_option linter.unusedVariables false

def bitB (pick : Int) (k : Nat) : Bool := bits .and .i64 (pick.fdiv (2 ^ k)) 1 == 1
def ownS (pick : Int) : Nat → List Int
  | 0 => zeroO
  | n + 1 => (ownS pick n).set (n + 1) (if bitB pick (n + 1) = true then 1 else 2)
theorem ownS_len (pick : Int) (n : Nat) : (ownS pick n).length = 16 := by
  induction n with
  | zero => rfl
  | succ n ih => rw [ownS, List.length_set, ih]
theorem ownS_at (pick : Int) (n : Nat) (hn : n ≤ 15) (j : Nat) : oAt (ownS pick n) j = if 1 ≤ j ∧ j ≤ n then (if bitB pick j = true then 1 else 2) else 0 := by
  induction n with
  | zero =>
    rw [if_neg (by omega)]
    rcases Nat.lt_or_ge j 16 with h | h
    · have : j = 0 ∨ j = 1 ∨ j = 2 ∨ j = 3 ∨ j = 4 ∨ j = 5 ∨ j = 6 ∨ j = 7 ∨ j = 8 ∨ j = 9 ∨ j = 10 ∨ j = 11 ∨ j = 12 ∨ j = 13 ∨ j = 14 ∨ j = 15 := by omega
      rcases this with rfl | rfl | rfl | rfl | rfl | rfl | rfl | rfl | rfl | rfl | rfl | rfl | rfl | rfl | rfl | rfl <;> rfl
    · simp only [oAt, Int.toNat_natCast, List.getD_eq_getElem?_getD]
      rw [List.getElem?_eq_none (by show 16 ≤ j; exact h)]; rfl
  | succ n ih =>
    have hl := ownS_len pick n
    rw [ownS, oAt_set (by omega), ih (by omega)]
    by_cases e : j = n + 1
    · subst e; rw [if_pos rfl, if_pos (show 1 ≤ n + 1 ∧ n + 1 ≤ n + 1 by omega)]
    · rw [if_neg e]
      by_cases h : 1 ≤ j ∧ j ≤ n
      · rw [if_pos h, if_pos (show 1 ≤ j ∧ j ≤ n + 1 by omega)]
      · rw [if_neg h, if_neg (show ¬ (1 ≤ j ∧ j ≤ n + 1) by omega)]
theorem ownS_ok (pick : Int) : OkO (ownS pick 15) := by
  refine ⟨ownS_len _ _, ?_, fun j h1 h2 => ?_⟩
  · have := ownS_at pick 15 (by omega) 0
    rw [if_neg (by omega)] at this
    exact this
  · rw [ownS_at pick 15 (by omega), if_pos (show 1 ≤ j ∧ j ≤ 15 by omega)]
    split
    · exact .inl rfl
    · exact .inr rfl
def spOwners : Spec := ⟨[], fun xs => match xs with
  | [.s (.int .i64 pick)] => some (.agg ((ownS pick 15).map iv))
  | _ => none⟩
def ownersI (pick : Int) (s : S) : Prop := s.env 0 = .s (.int .i64 pick) ∧ s.env 2 = .ptr 2 1 0 ∧ s.st 2 = ⟨1, .box (zeroO.map iv)⟩ ∧ s.env 3 = .ptr 3 1 0 ∧
  ∃ k : Nat, s.env 4 = .s (.int .i64 (k + 1 : Nat)) ∧ k ≤ 15 ∧ s.st 3 = ⟨1, .box ((ownS pick k).map iv)⟩
def wS (a b : List Int) : Nat → List Int
  | 0 => a
  | n + 1 => if (oAt b (n + 1 : Nat) == 1) = true then (wS a b n).set (n + 1) 1 else wS a b n
theorem wS_len (a b : List Int) (n : Nat) : (wS a b n).length = a.length := by
  induction n with
  | zero => rfl
  | succ n ih =>
    rw [wS]
    split
    · rw [List.length_set, ih]
    · exact ih
def spWith : Spec := ⟨[], fun xs => match xs with
  | [x, y] => (ownOf x).bind fun a => (ownOf y).bind fun b => some (.agg ((wS a b 15).map iv))
  | _ => none⟩
def withI (a b : List Int) (s : S) : Prop := s.env 2 = .ptr 2 1 0 ∧ s.env 3 = .ptr 3 1 0 ∧ s.st 3 = ⟨1, .box (b.map iv)⟩ ∧ s.env 4 = .ptr 4 1 0 ∧ s.st 4 = ⟨1, .box (zeroO.map iv)⟩ ∧
  ∃ k : Nat, s.env 5 = .s (.int .i64 (k + 1 : Nat)) ∧ k ≤ 15 ∧ s.st 2 = ⟨1, .box ((wS a b k).map iv)⟩
def cLaw3 : Orc := cLaw2
theorem cLaw3_ok : ∀ g sp, cLaw3 g = some sp → Impl Tryz.prog g sp := cLaw2_ok
theorem cLaw3_at : cLaw3 16 = some spClosed ∧ cLaw3 14 = some spOf ∧ cLaw3 15 = some spOf ∧ cLaw3 5 = some spFew ∧ cLaw3 28 = some spRightP := ⟨rfl, rfl, rfl, rfl, rfl⟩
theorem spOwners_mv : spOwners.mv = [] := rfl
theorem spOwners_fn (n : Int) : spOwners.fn [.s (.int .i64 n)] = some (.agg ((ownS n 15).map iv)) := rfl
theorem spWith_mv : spWith.mv = [] := rfl
theorem spWith_v {a b : List Int} (ha : a.length = 16) (hb : b.length = 16) : spWith.fn [.agg (a.map iv), .agg (b.map iv)] = some (.agg ((wS a b 15).map iv)) := by
  have h1 : ownOf (.agg (a.map iv)) = some a := ownOf_v ha
  have h2 : ownOf (.agg (b.map iv)) = some b := ownOf_v hb
  simp only [spWith, h1, h2, Option.bind_some]

def spLeast : Spec := ⟨[], fun xs => match xs with
  | [x, .s (.int .i64 _)] => (prgOf x).bind fun _ => some (.s (.bool true))
  | _ => none⟩
def leastI (p : Prg) (o : List Int) (s : S) : Prop := s.env 6 = .ptr 6 1 0 ∧ s.st 6 = ⟨1, .box ((ofO p).map iv)⟩ ∧ s.env 7 = .ptr 7 1 0 ∧ s.st 7 = ⟨1, .box (o.map iv)⟩ ∧ ∃ k : Nat, s.env 8 = .s (.int .i64 k) ∧ 1 ≤ k ∧ k ≤ 16
theorem least_ok {x : V} {pick : Int} (h : ∃ p, prgOf x = some p ∧ p.data.all byte = true ∧ (∀ i ∈ p.code, WfI i) ∧ p.code.length ≤ maxLen ∧ p.data.length ≤ maxLen) : spLeast.fn [x, .s (.int .i64 pick)] = some (.s (.bool true)) := by
  obtain ⟨p, h1, _⟩ := h
  simp only [spLeast, h1, Option.bind_some]

end Go.Proofs.YtalcmfmhifcaeaaGreat
