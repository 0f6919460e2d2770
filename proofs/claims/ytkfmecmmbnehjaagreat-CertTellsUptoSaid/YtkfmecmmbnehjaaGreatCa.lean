/-
Cells as values. No condition.
-/
import Derived.Test.YtkfmecmmbnehjaaGreatO3
namespace Go.Proofs.YtkfmecmmbnehjaaGreat
set_option linter.unusedSimpArgs false
set_option linter.unusedVariables false

structure Cell where
  kind : Int
  ins : Ins
  reg : Int
  pc : Int
  off : Int
def insZ : Ins := ⟨0, 0, 0, 0, 0⟩
def Cell.v (c : Cell) : V := .agg [.s (.int .i64 c.kind), .s (.int .i64 c.ins.op), .s (.int .i64 c.ins.d), .s (.int .i64 c.ins.a), .s (.int .i64 c.ins.b), .s (.int .i64 c.ins.imm), .s (.int .i64 c.reg), .s (.int .i64 c.pc), .s (.int .i64 c.off)]
def cellOf : V → Option Cell
  | .agg [.s (.int .i64 k), .s (.int .i64 op), .s (.int .i64 d), .s (.int .i64 a), .s (.int .i64 b), .s (.int .i64 imm), .s (.int .i64 r), .s (.int .i64 pc), .s (.int .i64 off)] => some ⟨k, ⟨op, d, a, b, imm⟩, r, pc, off⟩
  | _ => none
theorem cellOf_eq {x : V} {i : Cell} (h : cellOf x = some i) : x = i.v := by
  unfold cellOf at h
  split at h
  · cases h; rfl
  · cases h
theorem cellOf_v (c : Cell) : cellOf c.v = some c := rfl
theorem scal_cell (l : List Cell) : (l.map Cell.v).all V.scal = true := by
  rw [List.all_eq_true]; intro x hx; obtain ⟨b, _, rfl⟩ := List.mem_map.1 hx; rfl
/-- what a maker has put: nothing, or a row -/
def cellsOf : V → Option (List Cell)
  | .s (.slice none 0 0) => some []
  | .own 9 51 l => (l.mapM cellOf).bind fun c => if c.isEmpty then none else some c
  | _ => none
def ownC (l : List Cell) : V := if l.isEmpty then .s (.slice none 0 0) else .own 9 51 (l.map Cell.v)
theorem cellsOf_cases {x : V} {l : List Cell} (h : cellsOf x = some l) : (x = .s (.slice none 0 0) ∧ l = []) ∨ (x = .own 9 51 (l.map Cell.v) ∧ l ≠ []) := by
  unfold cellsOf at h
  split at h
  · cases h; exact .inl ⟨rfl, rfl⟩
  · obtain ⟨c, h1, h2⟩ := Option.bind_eq_some_iff.1 h
    split at h2
    · cases h2
    · cases h2
      rename_i hc
      exact .inr ⟨by rw [mapM_eq (fun _ _ => cellOf_eq) h1], fun e => hc (by simp [e])⟩
  · cases h
theorem ownC_snoc (l : List Cell) (c : Cell) : ownC (l ++ [c]) = .own 9 51 ((l ++ [c]).map Cell.v) := by
  unfold ownC
  rw [if_neg (by simp)]

end Go.Proofs.YtkfmecmmbnehjaaGreat
