/-
Splits as values: blocks with their cells, and who owns what. No condition.
-/
import Derived.Test.YtkfmecmmbnehjaaGreatCb
import Derived.Test.YtkfmecmmbnehjaaGreatO4
namespace Go.Proofs.YtkfmecmmbnehjaaGreat
set_option linter.unusedSimpArgs false
set_option linter.unusedVariables false

structure SB where
  from_ : Int
  to_ : Int
  next : Int
  taken : Int
  a : List Cell
  e : List Cell
def SB.v (b : SB) : V := .agg [.s (.int .i64 b.from_), .s (.int .i64 b.to_), .s (.int .i64 b.next), .s (.int .i64 b.taken), .lst false 9 (b.a.map Cell.v), .lst false 9 (b.e.map Cell.v)]
theorem sb_ext (x y : SB) : x = y ↔ (x.from_ = y.from_ ∧ x.to_ = y.to_ ∧ x.next = y.next ∧ x.taken = y.taken ∧ x.a = y.a ∧ x.e = y.e) := by
  constructor
  · rintro rfl; simp
  · obtain ⟨a, b, c, d, e, f⟩ := x
    obtain ⟨a', b', c', d', e', f'⟩ := y
    rintro ⟨h1, h2, h3, h4, h5, h6⟩
    simp only at *
    subst h1; subst h2; subst h3; subst h4; subst h5; subst h6
    rfl
instance : DecidableEq SB := fun x y => decidable_of_iff _ (sb_ext x y).symm
def sbOf : V → Option SB
  | .agg [.s (.int .i64 f), .s (.int .i64 t), .s (.int .i64 n), .s (.int .i64 k), x, y] => (lOf 9 x).bind fun l => (l.mapM cellOf).bind fun a => (lOf 9 y).bind fun m => (m.mapM cellOf).bind fun e => some ⟨f, t, n, k, a, e⟩
  | _ => none
theorem sbOf_v (b : SB) : sbOf b.v = some b := by
  simp only [sbOf, SB.v, lOf, if_true, Option.bind_some, mapM_of cellOf_v]
theorem sbOf_cells {x : V} {b : SB} (h : sbOf x = some b) : SeesL x.cells b.v.cells := by
  unfold sbOf at h
  split at h
  case h_2 => cases h
  obtain ⟨l, h1, h⟩ := Option.bind_eq_some_iff.1 h
  obtain ⟨a, h2, h⟩ := Option.bind_eq_some_iff.1 h
  obtain ⟨m, h3, h⟩ := Option.bind_eq_some_iff.1 h
  obtain ⟨e, h4, h⟩ := Option.bind_eq_some_iff.1 h
  cases h
  have e1 := mapM_eq (fun _ _ => cellOf_eq) h2
  have e2 := mapM_eq (fun _ _ => cellOf_eq) h4
  subst e1; subst e2
  exact .cons .same (.cons .same (.cons .same (.cons .same (.cons (lOf_sees h1) (.cons (lOf_sees h3) .nil)))))
theorem sbOf_sees {x : V} {b : SB} (h : sbOf x = some b) : Sees x b.v := by
  have hc := sbOf_cells h
  unfold sbOf at h
  split at h
  case h_2 => cases h
  exact Sees.agg hc
theorem SeesL.append {a b c d : List V} (h : SeesL a b) (k : SeesL c d) : SeesL (a ++ c) (b ++ d) := by
  induction h with
  | nil => exact k
  | cons x _ ih => exact .cons x ih
theorem lst_sees {fr : Bool} {sz : Nat} {l m : List V} (hl : l.length = m.length) (h : ∀ (i : Nat) (x y : V), l[i]? = some x → m[i]? = some y → SeesL x.cells y.cells) : Sees (.lst fr sz l) (.lst fr sz m) := by
  have hf : ∀ (l m : List V), l.length = m.length → (∀ (i : Nat) (x y : V), l[i]? = some x → m[i]? = some y → SeesL x.cells y.cells) → SeesL (flat l) (flat m) := by
    intro l
    induction l with
    | nil => intro m hl _; cases m with
      | nil => exact .nil
      | cons => cases hl
    | cons x l ih => intro m hl h; cases m with
      | nil => cases hl
      | cons y m =>
        have h0 := h 0 x y rfl rfl
        have h1 := ih m (by simpa using hl) fun i x' y' hx hy => h (i + 1) x' y' (by simpa using hx) (by simpa using hy)
        show SeesL (x.cells ++ flat l) (y.cells ++ flat m)
        exact h0.append h1
  refine .inr ⟨rfl, rfl, fun w own fresh u hr => ?_⟩
  have hF := hf l m hl h
  cases hr with
  | lst _ _ _ _ A cp us hc hu hlen he h1 hR =>
    rw [hl]
    have hp := hF.pw (us := us) ⟨hlen, he⟩
    refine .lst _ _ _ m A cp us (by omega) ?_ hp.1 hp.2 h1 hR
    intro y hy
    obtain ⟨i, hi, rfl⟩ := List.getElem_of_mem hy
    have hxl : i < l.length := by omega
    rw [← (h i l[i] m[i] (List.getElem?_eq_getElem hxl) (List.getElem?_eq_getElem hi)).len]
    exact hu _ (List.getElem_mem hxl)
theorem mapM_idx {α : Type} {f : V → Option α} : ∀ {l : List V} {c : List α}, l.mapM f = some c → l.length = c.length ∧ ∀ (i : Nat) (x : V) (a : α), l[i]? = some x → c[i]? = some a → f x = some a
  | [], c, e => by simp at e; subst e; exact ⟨rfl, fun i x a h => by simp at h⟩
  | x :: l, c, e => by
    rw [mapM_cons'] at e
    obtain ⟨a, ha, e⟩ := Option.bind_eq_some_iff.1 e
    obtain ⟨a2, has, e⟩ := Option.bind_eq_some_iff.1 e
    cases e
    obtain ⟨h1, h2⟩ := mapM_idx has
    refine ⟨by simp [h1], fun i x' a' hx hc => ?_⟩
    cases i with
    | zero => simp at hx hc; subst hx; subst hc; exact ha
    | succ i => exact h2 i x' a' (by simpa using hx) (by simpa using hc)
/-- a list of blocks -/
def sbsOf (x : V) : Option (List SB) := (lOf 6 x).bind fun l => l.mapM sbOf
theorem sbsOf_sees {x : V} {b : List SB} (h : sbsOf x = some b) : Sees x (.lst false 6 (b.map SB.v)) := by
  obtain ⟨l, h1, h2⟩ := Option.bind_eq_some_iff.1 h
  obtain ⟨h3, h4⟩ := mapM_idx h2
  have k1 := lOf_sees h1
  have k2 : Sees (.lst false 6 l) (.lst false 6 (b.map SB.v)) := lst_sees (by simp [h3]) fun i x y hx hy => by
    rw [List.getElem?_map] at hy
    obtain ⟨c, hc, rfl⟩ := Option.map_eq_some_iff.1 hy
    exact sbOf_cells (h4 i x c hx hc)
  refine .inr ⟨?_, rfl, fun w own fresh u hr => k2.rc (k1.rc hr)⟩
  rw [k1.isOwn]; rfl
theorem sbsOf_v (k : Bool) (b : List SB) : sbsOf (.lst k 6 (b.map SB.v)) = some b := by
  simp only [sbsOf, lOf, if_true, Option.bind_some, mapM_of sbOf_v]

structure Spl where
  bl : List SB
  o : List Int
def Spl.v (s : Spl) : V := .agg (.lst false 6 (s.bl.map SB.v) :: s.o.map iv)
def splOf : V → Option Spl
  | .agg (x :: os) => (sbsOf x).bind fun b => (ownOf (.agg os)).bind fun o => some ⟨b, o⟩
  | _ => none
theorem splOf_sees {x : V} {s : Spl} (h : splOf x = some s) : Sees x s.v ∧ s.o.length = 16 := by
  unfold splOf at h
  split at h
  case h_2 => cases h
  obtain ⟨b, h1, h⟩ := Option.bind_eq_some_iff.1 h
  obtain ⟨o, h2, h⟩ := Option.bind_eq_some_iff.1 h
  cases h
  obtain ⟨e, hl⟩ := ownOf_eq h2
  simp only [ownV, V.agg.injEq] at e
  subst e
  exact ⟨Sees.agg (.cons (sbsOf_sees h1) .same), hl⟩
theorem splOf_v (k : Bool) (b : List SB) {o : List Int} (ho : o.length = 16) : splOf (.agg (.lst k 6 (b.map SB.v) :: o.map iv)) = some ⟨b, o⟩ := by
  have : ownOf (.agg (o.map iv)) = some o := ownOf_v ho
  simp only [splOf, sbsOf_v, this, Option.bind_some]
end Go.Proofs.YtkfmecmmbnehjaaGreat
