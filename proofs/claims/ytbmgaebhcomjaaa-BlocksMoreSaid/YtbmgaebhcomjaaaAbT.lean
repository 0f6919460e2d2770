/-
Operations of the plain reckoning stand for those in memory: new rows, rows that grow, texts and bytes. No condition.
-/
import Derived.Test.YtbmgaebhcomjaaaAbQ
import Derived.Test.YtbmgaebhcomjaaaLib
namespace Go.Proofs.Ytbmgaebhcomjaaa
set_option linter.unusedSimpArgs false
set_option linter.unusedVariables false

section
variable {P : Program} {w0 w : World} {I : Ow} {n : Nat} {s : S} {env : Nat → V} {st : Nat → Blk} {a : Act} {η : Nat → Value}

/-- memory goes on, no block of one's own turns -/
theorem Rel.quiet {w' : World} (h : Rel w0 I n ⟨env, st⟩ a w η) (hos : w'.os = w.os) (htp : w'.tape = w.tape) (hout : w'.output = w.output) (hsz : w.heap.size ≤ w'.heap.size) (hh : ∀ g, g < w.heap.size → w'.heap[g]? = w.heap[g]?) :
    Rel w0 I n ⟨env, st⟩ a w' η ∧ (cx w0 I st w η).le (cx w0 I st w' η) :=
  h.step (fun _ => False) hos htp hout hsz (fun _ _ => ⟨rfl, rfl⟩) (fun _ h => h.elim) (fun _ h => h.elim) (fun g hg hne => absurd (hh g hg) hne) (fun _ _ h => h.elim) (fun _ _ _ h => h.elim) (fun _ _ h => h.elim)

theorem isU8T_spec {t : Nat} (h : isU8T P t = true) : P.underlying t = some (.int .u8) := by
  unfold isU8T at h
  split at h
  · assumption
  · cases h

theorem conv_sound (H : Rel w0 I n ⟨env, st⟩ a w η) {src dst : TypeId} {x z : V} {u : Value} (h : convV P st src dst x = some z) (hu : RV (cx w0 I st w η) u x) :
    ∃ r w', (convert src dst u).run P w = .ok r w' ∧ Rel w0 I n ⟨env, st⟩ a w' η ∧ RV (cx w0 I st w' η) r z := by
  unfold convV at h
  split at h
  · rename_i d k k' m hs hd
    simp only [Option.some.injEq] at h
    subst h
    rw [hu.s_inv]
    exact ⟨_, w, by simp [convert, run_underlying hs, run_underlying hd, Conv.intToInt], H, .s _⟩
  · rename_i d b hs hd
    simp only [Option.some.injEq] at h
    subst h
    rw [hu.s_inv]
    exact ⟨_, w, by simp [convert, run_underlying hs, run_underlying hd], H, .s _⟩
  · rename_i e b hs hd
    split at h
    case isFalse => cases h
    rename_i he
    simp only [Option.some.injEq] at h
    subst h
    rw [hu.s_inv]
    have he' := isU8T_spec he
    have hr := run_bytes_of_string (P := P) w src dst e b hs hd he'
    obtain ⟨h2, hle⟩ := H.quiet (w' := w.drew.alloc (.cells (bytesRow b (grownCap w b.size 0 e)) e ((bytesRow b (grownCap w b.size 0 e)).size, (bytesRow b (grownCap w b.size 0 e)).size + 1))) rfl rfl rfl (by simp) (fun g hg => heap_alloc_old w.drew _ hg)
    refine ⟨_, _, hr, h2, .lst _ _ _ _ ?_⟩
    have hcap : b.size ≤ grownCap w b.size 0 e := grownCap_ge w b.size 0 e
    have hlen : (b.data.toList.map fun b => V.s (.int .u8 b.toNat)).length = b.size := by simp
    have hfl : flat (b.data.toList.map fun b => V.s (.int .u8 b.toNat)) = (b.data.toList.map fun b => V.s (.int .u8 b.toNat)) := by
      simp [flat, List.flatMap_map, V.cells, ← List.map_eq_flatMap]
    have := RC.lst (w := w.drew.alloc (.cells (bytesRow b (grownCap w b.size 0 e)) e ((bytesRow b (grownCap w b.size 0 e)).size, (bytesRow b (grownCap w b.size 0 e)).size + 1)))
      (own := (cx w0 I st (w.drew.alloc (.cells (bytesRow b (grownCap w b.size 0 e)) e ((bytesRow b (grownCap w b.size 0 e)).size, (bytesRow b (grownCap w b.size 0 e)).size + 1))) η).own) (fresh := fun g => w0.heap.size ≤ g ∨ I.i g)
      true true 1 (b.data.toList.map fun b => V.s (.int .u8 b.toNat)) (some ⟨w.heap.size, 0, none⟩) (grownCap w b.size 0 e) (b.data.toList.map fun b => .int .u8 b.toNat)
      (by rw [hlen]; exact hcap) (fun x hx => by simp at hx; obtain ⟨q, _, rfl⟩ := hx; rfl) (by rw [hfl]; simp) (fun i u x hu hx => by
        rw [hfl] at hx
        rw [List.getElem?_map] at hu hx
        obtain ⟨q, hq, rfl⟩ := Option.map_eq_some_iff.1 hu
        rw [hq] at hx
        simp at hx
        subst hx
        exact .s _ _) (fun u hu => by simp at hu; obtain ⟨q, _, rfl⟩ := hu; rfl) (.inr ⟨w.heap.size, 0, rfl, ?_, fun _ => .inl H.fr.size, fun j u hj => ?_⟩)
    · rw [hlen] at this
      exact this
    · rintro ⟨b', hb', hg'⟩
      have hB0 := H.blk b' hb'
      simp only at hB0 hb'
      have : w.heap.size < w.heap.size := hB0.lt hb' hg'
      omega
    · have hnew := heap_alloc_new w.drew (.cells (bytesRow b (grownCap w b.size 0 e)) e ((bytesRow b (grownCap w b.size 0 e)).size, (bytesRow b (grownCap w b.size 0 e)).size + 1))
      simp only [World.cell?]
      have hsz2 : w.drew.heap.size = w.heap.size := rfl
      rw [hsz2] at hnew
      rw [hnew]
      simp only [Option.isSome_none, Bool.false_eq_true, if_false, Nat.zero_add]
      unfold bytesRow
      rw [List.getElem?_map] at hj
      obtain ⟨q, hq, rfl⟩ := Option.map_eq_some_iff.1 hj
      have hjl : j < b.data.size := by
        have := (List.getElem?_eq_some_iff.1 hq).1
        simpa using this
      simp only [Array.getElem?_append, Array.size_map, hjl, if_true, Array.getElem?_map]
      have : b.data[j]? = some q := by simpa using hq
      rw [this]; rfl
  · rename_i e e' b ver m hs hd
    split at h
    case isFalse => cases h
    rename_i hc
    obtain ⟨rfl, rfl, he⟩ := hc
    have he' := isU8T_spec he
    obtain ⟨⟨sz, e2, l⟩, hb, h2⟩ := Option.bind_eq_some_iff.1 h
    simp only at h2
    split at h2
    case isFalse => cases h2
    rename_i hpos
    simp only [Option.some.injEq] at h2
    subst h2
    obtain ⟨hver, hcont, hl, hrow⟩ := look_row H hb
    simp only at hver hcont
    have e1 := hu.sw_inv.2.2 _ hl
    subst e1
    obtain ⟨us, ho, hun, hp, h1⟩ := hrow
    have hlive : (st b).c.live = true := by rw [hcont]; rfl
    have hnn : η b ≠ .slice none 0 0 := fun hn => by
      rcases ho.val with ⟨_, h0⟩ | ⟨g, o, cap, h', _⟩
      · omega
      · rw [h'] at hn; cases hn
    obtain ⟨w', hr, ho', hg⟩ := run_mark (P := P) ho hnn hs he'
    obtain ⟨h6, hle⟩ := H.step (st' := st) (w' := w') (η' := η) (fun j => j = b) hg.os hg.tape hg.output hg.size (fun j _ => ⟨rfl, rfl⟩) (fun j _ => Nat.le_refl _) (fun j hj _ => by subst hj; exact .inr ⟨rfl, hlive⟩)
      (fun g hlt hne => ⟨b, rfl, hlive, by
        refine Classical.byContradiction fun hnn => hne (hg.block g hlt fun e => hnn e.symm)⟩)
      (fun j g hj _ hgb => .inr ⟨b, rfl, hlive, by subst hj; exact hgb⟩)
      (fun j j' g hj hj' _ _ _ _ => hj.trans hj'.symm)
      (fun hle j hj _ => by
        subst hj
        rw [hcont]
        exact ⟨us, ho', hun, hp.imp fun u x hx => by have := hx.mono hle.cells; rw [← hle.fresh] at this; exact this, h1⟩)
    exact ⟨_, w', hr, h6, hu.mono hle⟩
  · rename_i e hs hd _
    split at h
    case isFalse => cases h
    rename_i he
    have he' := isU8T_spec he
    split at h
    · simp only [Option.some.injEq] at h
      subst h
      rw [hu.s_inv]
      exact ⟨_, w, conv_rd (P := P) (w := w) (A := none) (xs := []) (n := 0) (c := 0) (Rd.nil w none) rfl src e hs he' dst hd, H, .s _⟩
    · rename_i x' hx'
      obtain ⟨⟨sz, fr, l⟩, hel, h2⟩ := Option.bind_eq_some_iff.1 h
      simp only at h2
      split at h2
      case isFalse => cases h2
      rename_i hall
      simp only [Option.some.injEq] at h2
      subst h2
      obtain ⟨A, cp, us, rfl, hcp, hun, hp, h1, hc⟩ := elems_sound H hu hel
      have hl8 : ∀ x ∈ l, ∃ m, x = .s (.int .u8 m) := fun x hx => by
        have := List.all_eq_true.1 hall x hx
        unfold isU8 at this
        split at this
        · exact ⟨_, rfl⟩
        · cases this
      have hfl : flat l = l := flat_u8 l hl8
      rw [hfl] at hp
      have hus : us = nums .u8 (l.map numOf) := by
        apply List.ext_getElem?
        intro i
        rcases Nat.lt_or_ge i l.length with hi | hi
        · obtain ⟨m, hm⟩ := hl8 l[i] (List.getElem_mem hi)
          obtain ⟨v, hv, hr⟩ := hp.get (List.getElem?_eq_getElem hi)
          rw [hm] at hr
          cases hr
          rw [hv]
          simp [nums, List.getElem?_eq_getElem hi, hm, numOf]
        · rw [List.getElem?_eq_none (by rw [hp.1]; exact hi), List.getElem?_eq_none (by simpa [nums] using hi)]
      refine ⟨_, w, conv_rd (P := P) (xs := l.map numOf) (n := l.length) (c := cp) (A := A) ?_ (by simp) src e hs he' dst hd, H, .s _⟩
      rw [← hus]
      rcases hc with hc | ⟨g, o, hA, hc⟩
      · exact .inl hc
      · exact .inr ⟨g, o, hA, hc⟩
  · cases h
end

end Go.Proofs.Ytbmgaebhcomjaaa
