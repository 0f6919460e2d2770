/-
How a state of the plain reckoning stands in memory, and how both go on together. No condition.
-/
import Derived.Test.YtbmgaebhcomjaaaAbR
namespace Go.Proofs.Ytbmgaebhcomjaaa
set_option linter.unusedSimpArgs false
set_option linter.unusedVariables false

def Cont.live : Cont → Bool
  | .gone => false
  | _ => true

/-- what was there and is the function's own: its blocks, and which values stand at the places of its arguments -/
structure Ow where
  i : Nat → Prop
  pin : Nat → Option Value

def cx (w0 : World) (I : Ow) (st : Nat → Blk) (w : World) (η : Nat → Value) : Cx where
  w := w
  own := fun g => ∃ b, (st b).c.live = true ∧ blkOf (η b) = some g
  fresh := fun g => w0.heap.size ≤ g ∨ I.i g
  cur := fun b => (st b).ver
  look := fun b ver => if (st b).ver = ver ∧ (st b).c.live = true then some (η b) else none

def RowR (w : World) (own fresh : Nat → Prop) (v0 : Value) (sz e : Nat) (l : List V) : Prop :=
  ∃ us, OwnRow w e sz v0 l.length us ∧ (∀ x ∈ l, x.cells.length = sz) ∧ PW (RC w own fresh true) us (flat l) ∧ ∀ u ∈ us, u.oneCell' = true

/-- .. of cells that may be one's own, too -/
def RowV (c : Cx) (v0 : Value) (sz e : Nat) (l : List V) : Prop :=
  ∃ us, OwnRow c.w e sz v0 l.length us ∧ (∀ x ∈ l, x.cells.length = sz) ∧ PW (RV c) us (flat l) ∧ ∀ u ∈ us, u.oneCell' = true

def BR (c : Cx) (v0 : Value) : Cont → Prop
  | .gone => True
  | .box cells => ∃ g o cur e, v0 = .pointer (some ⟨g, o, none⟩) ∧ c.w.heap[g]? = some (.cells cur e (0, 0)) ∧ PW (RV c) ((cur.toList.drop o).take cells.length) cells
  | .row sz e l => RowR c.w c.own c.fresh v0 sz e l
  | .rowV sz e l => RowV c v0 sz e l

structure Fr (w0 : World) (I : Nat → Prop) (w : World) : Prop where
  os : w.os = w0.os
  tape : w.tape = w0.tape
  output : w.output = w0.output
  size : w0.heap.size ≤ w.heap.size
  block : ∀ k, k < w0.heap.size → ¬ I k → w.heap[k]? = w0.heap[k]?

structure Rel (w0 : World) (I : Ow) (n : Nat) (s : S) (a : Act) (w : World) (η : Nat → Value) : Prop where
  size : a.tmps.size = n
  defers : a.defers = []
  env : ∀ t, RV (cx w0 I s.st w η) (a.tmps.getD t undef) (s.env t)
  blk : ∀ b, (s.st b).c.live = true → BR (cx w0 I s.st w η) (η b) (s.st b).c
  sep : ∀ b b' g, (s.st b).c.live = true → (s.st b').c.live = true → blkOf (η b) = some g → blkOf (η b') = some g → b = b'
  old : ∀ b g, (s.st b).c.live = true → blkOf (η b) = some g → w0.heap.size ≤ g ∨ I.i g
  fr : Fr w0 I.i w
  pin : ∀ b v, I.pin b = some v → 1 ≤ (s.st b).ver ∧ ((s.st b).ver = 1 → (s.st b).c.live = true → η b = v)

section
variable {w0 w w' : World} {I : Ow} {n : Nat} {s : S} {env : Nat → V} {st st' : Nat → Blk} {a : Act} {η η' : Nat → Value}

theorem RowR.rowV {c : Cx} {v0 : Value} {sz e : Nat} {l : List V} (h : RowR c.w c.own c.fresh v0 sz e l) : RowV c v0 sz e l := by
  obtain ⟨us, h1, h2, h3, h4⟩ := h
  exact ⟨us, h1, h2, h3.imp fun u x hx => hx.rvt rfl, h4⟩

theorem BR.lt {c : Cx} {v : Value} {k : Cont} (h : BR c v k) (hl : k.live = true) {g : Nat} (hg : blkOf v = some g) : g < c.w.heap.size := by
  cases k with
  | gone => cases hl
  | box cells =>
    obtain ⟨g1, o, cur, e, hv, hg1, hp⟩ := h
    rw [hv] at hg; simp [blkOf] at hg; subst hg
    exact (Array.getElem?_eq_some_iff.1 hg1).1
  | row sz e l =>
    obtain ⟨us, ho, _⟩ := h
    exact ho.lt hg
  | rowV sz e l =>
    obtain ⟨us, ho, _⟩ := h
    exact ho.lt hg

/-- memory and blocks go on: U: the blocks that turn -/
theorem Rel.step (h : Rel w0 I n ⟨env, st⟩ a w η) (U : Nat → Prop)
    (hos : w'.os = w.os) (htp : w'.tape = w.tape) (hout : w'.output = w.output) (hsz : w.heap.size ≤ w'.heap.size)
    (hst : ∀ b, ¬ U b → st' b = st b ∧ η' b = η b)
    (hver : ∀ b, U b → (st b).ver ≤ (st' b).ver)
    (hliv : ∀ b, U b → (st' b).c.live = true → (st b).ver < (st' b).ver ∨ (η' b = η b ∧ (st b).c.live = true))
    (hheap : ∀ g, g < w.heap.size → w'.heap[g]? ≠ w.heap[g]? → ∃ b, U b ∧ (st b).c.live = true ∧ blkOf (η b) = some g)
    (hnew : ∀ b g, U b → (st' b).c.live = true → blkOf (η' b) = some g → w.heap.size ≤ g ∨ ∃ b0, U b0 ∧ (st b0).c.live = true ∧ blkOf (η b0) = some g)
    (hsep : ∀ b b' g, U b → U b' → (st' b).c.live = true → (st' b').c.live = true → blkOf (η' b) = some g → blkOf (η' b') = some g → b = b')
    (hBR : (cx w0 I st w η).le (cx w0 I st' w' η') → ∀ b, U b → (st' b).c.live = true → BR (cx w0 I st' w' η') (η' b) (st' b).c) :
    Rel w0 I n ⟨env, st'⟩ a w' η' ∧ (cx w0 I st w η).le (cx w0 I st' w' η') := by
  have hle : (cx w0 I st w η).le (cx w0 I st' w' η') := by
    refine ⟨fun g hg hlt => ⟨?_, ?_⟩, rfl, fun b => ?_, fun b ver v0 h0 hv => ?_⟩
    · refine Classical.byContradiction fun hne => ?_
      obtain ⟨b, _, hb, hg'⟩ := hheap g hlt hne
      exact hg ⟨b, hb, hg'⟩
    · rintro ⟨b, hb, hg'⟩
      by_cases hU : U b
      · rcases hnew b g hU hb hg' with h1 | ⟨b0, _, h1, h2⟩
        · simp only [cx] at hlt; omega
        · exact hg ⟨b0, h1, h2⟩
      · obtain ⟨h1, h2⟩ := hst b hU
        rw [h1] at hb; rw [h2] at hg'
        exact hg ⟨b, hb, hg'⟩
    · by_cases hU : U b
      · exact hver b hU
      · simp only [cx]; rw [(hst b hU).1]; exact Nat.le_refl _
    · simp only [cx] at h0 hv ⊢
      by_cases hU : U b
      · split at h0
        · rename_i hc
          obtain ⟨rfl, hlv⟩ := hc
          simp only [Option.some.injEq] at h0
          subst h0
          rcases hliv b hU hlv with h1 | ⟨h1, h2⟩
          · omega
          · have := hver b hU
            rw [if_pos ⟨by omega, h2⟩, h1]
        · cases h0
      · rw [(hst b hU).1, (hst b hU).2] at h0; exact h0
  refine ⟨⟨h.size, h.defers, fun t => (h.env t).mono hle, fun b hb => ?_, fun b b' g hb hb' hg hg' => ?_, fun b g hb hg => ?_, ⟨hos.trans h.fr.os, htp.trans h.fr.tape, hout.trans h.fr.output, Nat.le_trans h.fr.size hsz, fun k hk hI => ?_⟩, fun b v hbv => ?_⟩, hle⟩
  · by_cases hU : U b
    · exact hBR hle b hU hb
    · obtain ⟨h1, h2⟩ := hst b hU
      simp only at hb ⊢
      rw [h1] at hb ⊢
      rw [h2]
      have hsame : ∀ g, blkOf (η b) = some g → g < w.heap.size → w'.heap[g]? = w.heap[g]? := fun g hg hlt => by
        refine Classical.byContradiction fun hne => ?_
        obtain ⟨b1, hb1, hl1, hg1⟩ := hheap g hlt hne
        exact hU (h.sep b1 b g hl1 hb hg1 hg ▸ hb1)
      have hB := h.blk b hb
      simp only at hB
      cases hc : (st b).c with
      | gone => simp [BR]
      | box cells =>
        rw [hc] at hB
        obtain ⟨g, o, cur, e, hv, hg, hp⟩ := hB
        refine ⟨g, o, cur, e, hv, (hsame g (by rw [hv]; rfl) (Array.getElem?_eq_some_iff.1 hg).1).trans hg, hp.imp fun u x hx => hx.mono hle⟩
      | row sz e l =>
        rw [hc] at hB
        obtain ⟨us, ho, hu, hp, h1⟩ := hB
        refine ⟨us, ho.same fun g hg => hsame g hg (ho.lt hg), hu, hp.imp fun u x hx => by have := hx.mono hle.cells; rw [← hle.fresh] at this; exact this, h1⟩
      | rowV sz e l =>
        rw [hc] at hB
        obtain ⟨us, ho, hu, hp, h1⟩ := hB
        exact ⟨us, ho.same fun g hg => hsame g hg (ho.lt hg), hu, hp.imp fun u x hx => hx.mono hle, h1⟩
  · simp only at hb hb'
    by_cases hU : U b
    · by_cases hU' : U b'
      · exact hsep b b' g hU hU' hb hb' hg hg'
      · exfalso
        obtain ⟨h1, h2⟩ := hst b' hU'
        rw [h1] at hb'; rw [h2] at hg'
        rcases hnew b g hU hb hg with h3 | ⟨b0, hU0, h3, h4⟩
        · have hB := h.blk b' hb'
          simp only at hB
          have hlt : g < w.heap.size := hB.lt hb' hg'
          omega
        · exact hU' (h.sep b0 b' g h3 hb' h4 hg' ▸ hU0)
    · obtain ⟨h1, h2⟩ := hst b hU
      rw [h1] at hb; rw [h2] at hg
      by_cases hU' : U b'
      · exfalso
        rcases hnew b' g hU' hb' hg' with h3 | ⟨b0, hU0, h3, h4⟩
        · have hB := h.blk b hb
          simp only at hB
          have hlt : g < w.heap.size := hB.lt hb hg
          omega
        · exact hU (h.sep b0 b g h3 hb h4 hg ▸ hU0)
      · obtain ⟨h3, h4⟩ := hst b' hU'
        rw [h3] at hb'; rw [h4] at hg'
        exact h.sep b b' g hb hb' hg hg'
  · simp only at hb
    by_cases hU : U b
    · rcases hnew b g hU hb hg with h1 | ⟨b0, _, h1, h2⟩
      · exact .inl (Nat.le_trans h.fr.size h1)
      · exact h.old b0 g h1 h2
    · obtain ⟨h1, h2⟩ := hst b hU
      rw [h1] at hb; rw [h2] at hg
      exact h.old b g hb hg
  · refine Eq.trans (Classical.byContradiction fun hne => ?_) (h.fr.block k hk hI)
    obtain ⟨b, _, hb, hg⟩ := hheap k (Nat.lt_of_lt_of_le hk h.fr.size) hne
    rcases h.old b k hb hg with h1 | h1
    · omega
    · exact hI h1
  · obtain ⟨h1, h2⟩ := h.pin b v hbv
    simp only at h1 h2 ⊢
    by_cases hU : U b
    · have h3 := hver b hU
      refine ⟨by omega, fun h4 h5 => ?_⟩
      rcases hliv b hU h5 with h6 | ⟨h6, h7⟩
      · omega
      · rw [h6]; exact h2 (by omega) h7
    · obtain ⟨h3, h4⟩ := hst b hU
      rw [h3, h4]
      exact ⟨h1, h2⟩

/-- a place of the frame is given a value -/
theorem Rel.put (h : Rel w0 I n ⟨env, st⟩ a w η) {d : Nat} {v : Value} {x : V} (hv : RV (cx w0 I st w η) v x) (hd : d < n) :
    Rel w0 I n ⟨upd env d x, st⟩ (a.put (some d) v) w η := by
  refine ⟨by simpa [Act.put] using h.size, h.defers, fun t => ?_, h.blk, h.sep, h.old, h.fr, h.pin⟩
  have hs := h.size
  simp only [Act.put, upd]
  by_cases ht : t = d
  · subst ht
    rw [if_pos rfl]
    have : (a.tmps.setIfInBounds t v).getD t undef = v := by
      simp [Array.getD_eq_getD_getElem?, hs, hd]
    rw [this]; exact hv
  · rw [if_neg ht]
    have : (a.tmps.setIfInBounds d v).getD t undef = a.tmps.getD t undef := by
      simp [Array.getD_eq_getD_getElem?, Array.getElem?_setIfInBounds_ne (Ne.symm ht)]
    rw [this]; exact h.env t

theorem Rel.eval (h : Rel w0 I n s a w η) (x : Operand) : RV (cx w0 I s.st w η) (a.eval x) (ev s.env x) := by
  cases x with
  | tmp t => exact h.env t
  | const v => exact .s _
  | global g => exact .s _
  | func f => exact .fn f [] [] rfl fun i u x hu => by simp at hu

theorem look_row {b ver sz e : Nat} {l : List V} (h : Rel w0 I n s a w η) (hr : rowAt s.st b ver = some (sz, e, l)) :
    (s.st b).ver = ver ∧ (s.st b).c = .row sz e l ∧ (cx w0 I s.st w η).look b ver = some (η b) ∧ RowR w (cx w0 I s.st w η).own (cx w0 I s.st w η).fresh (η b) sz e l := by
  unfold rowAt at hr
  split at hr
  · rename_i hv
    split at hr
    · rename_i sz' e' l' hc
      simp only [Option.some.injEq, Prod.mk.injEq] at hr
      obtain ⟨rfl, rfl, rfl⟩ := hr
      have hl : (s.st b).c.live = true := by rw [hc]; rfl
      have := h.blk b hl
      rw [hc] at this
      exact ⟨hv, hc, by simp [cx, hv, hl], this⟩
    · cases hr
  · cases hr
theorem look_any {b ver sz e : Nat} {l : List V} (h : Rel w0 I n s a w η) (hr : rowAny s.st b ver = some (sz, e, l)) :
    (s.st b).ver = ver ∧ (s.st b).c.live = true ∧ (cx w0 I s.st w η).look b ver = some (η b) ∧ RowV (cx w0 I s.st w η) (η b) sz e l := by
  unfold rowAny at hr
  split at hr
  · rename_i hv
    split at hr
    · rename_i sz' e' l' hc
      simp only [Option.some.injEq, Prod.mk.injEq] at hr
      obtain ⟨rfl, rfl, rfl⟩ := hr
      have hl : (s.st b).c.live = true := by rw [hc]; rfl
      have := h.blk b hl
      rw [hc] at this
      exact ⟨hv, hl, by simp [cx, hv, hl], RowR.rowV this⟩
    · rename_i sz' e' l' hc
      simp only [Option.some.injEq, Prod.mk.injEq] at hr
      obtain ⟨rfl, rfl, rfl⟩ := hr
      have hl : (s.st b).c.live = true := by rw [hc]; rfl
      have := h.blk b hl
      rw [hc] at this
      exact ⟨hv, hl, by simp [cx, hv, hl], this⟩
    · cases hr
  · cases hr
theorem look_box {b ver : Nat} {l : List V} (h : Rel w0 I n s a w η) (hr : boxAt s.st b ver = some l) :
    (s.st b).ver = ver ∧ (s.st b).c = .box l ∧ (cx w0 I s.st w η).look b ver = some (η b) ∧
      ∃ g o cur e, η b = .pointer (some ⟨g, o, none⟩) ∧ w.heap[g]? = some (.cells cur e (0, 0)) ∧ PW (RV (cx w0 I s.st w η)) ((cur.toList.drop o).take l.length) l := by
  unfold boxAt at hr
  split at hr
  · rename_i hv
    split at hr
    · rename_i l' hc
      simp only [Option.some.injEq] at hr
      subst hr
      have hl : (s.st b).c.live = true := by rw [hc]; rfl
      have := h.blk b hl
      rw [hc] at this
      exact ⟨hv, hc, by simp [cx, hv, hl], this⟩
    · cases hr
  · cases hr
end

end Go.Proofs.Ytbmgaebhcomjaaa
