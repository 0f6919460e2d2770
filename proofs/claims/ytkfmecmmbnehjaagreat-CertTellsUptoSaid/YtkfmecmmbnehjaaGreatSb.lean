/-
A row of cells that may be one's own is seen as a row, if no cell is one's own any more, and the other way round. No condition.
-/
import Derived.Test.YtkfmecmmbnehjaaGreatFz
namespace Go.Proofs.YtkfmecmmbnehjaaGreat
set_option linter.unusedSimpArgs false
set_option linter.unusedVariables false

theorem Gh.turn {env : Nat → V} {st : Nat → Blk} {b ver : Nat} {c c' : Cont} (hb : st b = ⟨ver, c⟩) (hl : c.live = true)
    (hR : ∀ (x y : Cx) (v0 : Value), x.le y → x.w = y.w → BR x v0 c → BR y v0 c') : Gh ⟨env, st⟩ ⟨env, upd st b ⟨ver, c'⟩⟩ := by
  intro w0 I n a w η h
  have liveb : (st b).c.live = true := by rw [hb]; exact hl
  obtain ⟨st', hst'⟩ : ∃ st', upd st b ⟨ver, c'⟩ = st' := ⟨_, rfl⟩
  have s1 : ∀ x, x ≠ b → st' x = st x := fun x h1 => by rw [← hst']; simp only [upd]; rw [if_neg h1]
  have s2 : st' b = ⟨ver, c'⟩ := by rw [← hst']; simp [upd]
  rw [hst']
  have old : ∀ x, (st' x).c.live = true → (st x).c.live = true := fun x hx => by
    by_cases h1 : x = b
    · subst h1; exact liveb
    · rw [s1 x h1] at hx; exact hx
  refine (h.step (st' := st') (w' := w) (η' := η) (fun x => x = b) rfl rfl rfl (Nat.le_refl _) ?_ ?_ ?_ ?_ ?_ ?_ ?_).1
  · intro x hx; exact ⟨s1 x hx, rfl⟩
  · rintro x rfl; rw [s2, hb]; exact Nat.le_refl _
  · rintro x hx hl'; exact .inr ⟨rfl, old x hl'⟩
  · intro g _ hne'; exact absurd rfl hne'
  · intro x g hx hl' hg; exact .inr ⟨x, hx, old x hl', hg⟩
  · intro x y g _ _ hlx hly hgx hgy; exact h.sep x y g (old x hlx) (old y hly) hgx hgy
  · rintro hle x rfl hl'
    rw [s2]
    have hB := h.blk x liveb
    simp only [hb] at hB
    exact hR _ _ _ hle rfl hB
theorem Gh.open {env : Nat → V} {st : Nat → Blk} {b ver sz e : Nat} {l : List V} (hb : st b = ⟨ver, .row sz e l⟩) : Gh ⟨env, st⟩ ⟨env, upd st b ⟨ver, .rowV sz e l⟩⟩ := by
  refine Gh.turn hb rfl fun x y v0 hle hw h => ?_
  obtain ⟨us, h1, h2, h3, h4⟩ := h
  refine ⟨us, hw ▸ h1, h2, h3.imp fun u z hz => ?_, h4⟩
  have : RV x u z := hz.rvt rfl
  exact this.mono hle
theorem Gh.close {env : Nat → V} {st : Nat → Blk} {b ver sz e : Nat} {l : List V} (hb : st b = ⟨ver, .rowV sz e l⟩) (hc : ∀ x ∈ flat l, x.clo true = true) : Gh ⟨env, st⟩ ⟨env, upd st b ⟨ver, .row sz e (l.map V.unfr)⟩⟩ := by
  refine Gh.turn hb rfl fun x y v0 hle hw h => ?_
  obtain ⟨us, h1, h2, h3, h4⟩ := h
  refine ⟨us, ?_, fun z hz => ?_, ?_, h4⟩
  · rw [List.length_map]; exact hw ▸ h1
  · obtain ⟨q, hq, rfl⟩ := List.mem_map.1 hz
    rw [unfr_cells, unfrL_len]; exact h2 q hq
  · rw [flat_unfr]
    refine ⟨by rw [List.length_map]; exact h3.1, fun i u z hu hz => ?_⟩
    rw [List.getElem?_map] at hz
    obtain ⟨q, hq, rfl⟩ := Option.map_eq_some_iff.1 hz
    exact (((h3.2 i u q hu hq).mono hle).clo (hc q (List.mem_of_getElem? hq))).unfr

end Go.Proofs.YtkfmecmmbnehjaaGreat
