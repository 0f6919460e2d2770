/-
A row of one's own that is written no more is seen as a list that is read, in the cell of another row. No condition.
-/
import Derived.Test.YtkfmecmmbnehjaaGreatAbK
namespace Go.Proofs.YtkfmecmmbnehjaaGreat
set_option linter.unusedSimpArgs false
set_option linter.unusedVariables false

def frz (b ver sz : Nat) (l : List V) (x : V) : V := match x with
  | .sw b' v' n' => if b' = b ∧ v' = ver ∧ n' = l.length then .lst true sz l else .sw b' v' n'
  | x => x
theorem Gh.freeze {env : Nat → V} {st : Nat → Blk} {b r ver vr sz e sz2 e2 : Nat} {l cells cells' : List V} (hb : st b = ⟨ver, .row sz e l⟩) (hr : st r = ⟨vr, .rowV sz2 e2 cells⟩) (hne : b ≠ r)
    (hlen : cells'.length = cells.length) (hu : ∀ x ∈ cells', x.cells.length = sz2) (hf : flat cells' = (flat cells).map (frz b ver sz l)) :
    Gh ⟨env, st⟩ ⟨env, upd (upd st b ⟨ver, .gone⟩) r ⟨vr, .rowV sz2 e2 cells'⟩⟩ := by
  intro w0 I n a w η h
  have s1 : ∀ x, x ≠ b → x ≠ r → upd (upd st b ⟨ver, .gone⟩) r ⟨vr, .rowV sz2 e2 cells'⟩ x = st x := fun x h1 h2 => by simp only [upd]; rw [if_neg h2, if_neg h1]
  have s2 : upd (upd st b ⟨ver, .gone⟩) r ⟨vr, .rowV sz2 e2 cells'⟩ b = ⟨ver, .gone⟩ := by simp [upd, hne]
  have s3 : upd (upd st b ⟨ver, .gone⟩) r ⟨vr, .rowV sz2 e2 cells'⟩ r = ⟨vr, .rowV sz2 e2 cells'⟩ := by simp [upd]
  obtain ⟨st', hst'⟩ : ∃ st', upd (upd st b ⟨ver, .gone⟩) r ⟨vr, .rowV sz2 e2 cells'⟩ = st' := ⟨_, rfl⟩
  rw [hst'] at s1 s2 s3 ⊢
  have liveb : (st b).c.live = true := by rw [hb]; rfl
  have liver : (st r).c.live = true := by rw [hr]; rfl
  have old : ∀ x, (st' x).c.live = true → x ≠ b ∧ (st x).c.live = true := fun x hx => by
    by_cases h1 : x = b
    · subst h1; rw [s2] at hx; cases hx
    · refine ⟨h1, ?_⟩
      by_cases h2 : x = r
      · subst h2; exact liver
      · rw [s1 x h1 h2] at hx; exact hx
  refine (h.step (st' := st') (w' := w) (η' := η) (fun x => x = b ∨ x = r) rfl rfl rfl (Nat.le_refl _) ?_ ?_ ?_ ?_ ?_ ?_ ?_).1
  · intro x hx; exact ⟨s1 x (fun e => hx (.inl e)) (fun e => hx (.inr e)), rfl⟩
  · rintro x (rfl | rfl)
    · rw [s2, hb]; exact Nat.le_refl _
    · rw [s3, hr]; exact Nat.le_refl _
  · rintro x hx hl
    exact .inr ⟨rfl, (old x hl).2⟩
  · intro g _ hne'; exact absurd rfl hne'
  · intro x g hx hl hg
    exact .inr ⟨x, hx, (old x hl).2, hg⟩
  · intro x y g _ _ hlx hly hgx hgy
    exact h.sep x y g (old x hlx).2 (old y hly).2 hgx hgy
  · rintro hle x (rfl | rfl) hl
    · rw [s2] at hl; cases hl
    rw [s3]
    have hB := h.blk x liver
    simp only [hr] at hB
    obtain ⟨us, ho, hu0, hp, h1⟩ := hB
    refine ⟨us, by rw [hlen]; exact ho, hu, ?_, h1⟩
    rw [hf]
    refine ⟨by rw [List.length_map]; exact hp.1, fun i u y hu' hy => ?_⟩
    rw [List.getElem?_map] at hy
    obtain ⟨z, hz, rfl⟩ := Option.map_eq_some_iff.1 hy
    have hR := hp.2 i u z hu' hz
    unfold frz
    split
    case h_2 => exact hR.mono hle
    rename_i b' v' n'
    split
    case isFalse => exact hR.mono hle
    rename_i hh
    obtain ⟨rfl, rfl, rfl⟩ := hh
    have hu2 : u = η b' := by
      cases hR with
      | sw _ _ _ _ hs hv hlk => exact hlk (η b') (by simp only [cx]; rw [if_pos ⟨by rw [hb], liveb⟩])
    subst hu2
    have hB2 := h.blk b' liveb
    simp only [hb] at hB2
    obtain ⟨A, cp, vs, hv, e1, e2', e3, e4, e5⟩ := RowR.elems hB2
    refine .lst true sz l _ ?_
    rw [hv]
    refine .lst true true sz l A cp vs e1 e2' (e3.1) (fun i u x hu hx => (e3.2 i u x hu hx).mono hle.cells) e4 ?_
    rcases e5 with e5 | ⟨g, o, rfl, e6⟩
    · exact .inl e5
    · have hg : blkOf (η b') = some g := by rw [hv]; rfl
      refine .inr ⟨g, o, rfl, ?_, fun _ => h.old b' g liveb hg, e6⟩
      rintro ⟨y, hy, hgy⟩
      exact (old y hy).1 (h.sep y b' g (old y hy).2 liveb hgy hg)

end Go.Proofs.YtkfmecmmbnehjaaGreat
