/-
Operations of the plain reckoning stand for those in memory: slices, lengths, texts. No condition.
-/
import Derived.Test.YtegalldldcaocaaAbP
namespace Go.Proofs.Ytegalldldcaocaa

section
variable {P : Program} {w0 w : World} {I : Nat → Prop} {n : Nat} {s : S} {env : Nat → V} {st : Nat → Blk} {a : Act} {η : Nat → Value}

/-- what is known of a list that is read -/
theorem elems_sound (h : Rel w0 I n s a w η) {x : V} {u : Value} (hu : RV (cx w0 I s.st w η) u x) {sz : Nat} {fr : Bool} {l : List V} (hx : elemsOf s.st x = some (sz, fr, l)) :
    ∃ A cp us, u = .slice A l.length cp ∧ l.length ≤ cp ∧ (∀ x ∈ l, x.cells.length = sz) ∧ PW (RC w (cx w0 I s.st w η).own (cx w0 I s.st w η).fresh fr) us (flat l) ∧ (∀ u ∈ us, u.oneCell' = true) ∧
      (us = [] ∨ ∃ g o, A = some ⟨g, o, none⟩ ∧ ∀ j u, us[j]? = some u → w.cell? ⟨g, o + j, none⟩ = some u) := by
  cases x <;> simp only [elemsOf, reduceCtorEq] at hx
  case lst fr' sz' l' =>
    simp only [Option.some.injEq, Prod.mk.injEq] at hx
    obtain ⟨rfl, rfl, rfl⟩ := hx
    cases hu.lst_inv with
    | lst k fr sz l A cp us hc hu hl he h1 hr =>
      refine ⟨A, cp, us, rfl, hc, hu, ⟨hl, he⟩, h1, ?_⟩
      rcases hr with hr | ⟨g, o, hA, _, _, hc⟩
      · exact .inl hr
      · exact .inr ⟨g, o, hA, hc⟩
  case sw b ver =>
    obtain ⟨⟨sz', e, l'⟩, hb, hx⟩ := Option.map_eq_some_iff.1 hx
    simp only [Prod.mk.injEq] at hx
    obtain ⟨rfl, rfl, rfl⟩ := hx
    obtain ⟨_, _, hl, hrow⟩ := look_row h hb
    have e1 := hu.sw_inv _ hl
    rcases hrow.val with ⟨h1, h2⟩ | ⟨g, cap, h1, h2⟩
    · rw [h1] at e1
      subst h2
      exact ⟨none, 0, [], e1, Nat.le_refl _, fun x hx => by simp at hx, PW.nil, fun u hu => by simp at hu, .inl rfl⟩
    · obtain ⟨us, ho, hu', hp, h3⟩ := hrow
      refine ⟨_, cap, us, e1.trans h1, h2, hu', hp, h3, .inr ⟨g, 0, rfl, fun j u hj => ?_⟩⟩
      have := ho.cells (g := g) (by rw [h1]; rfl) j u hj
      rwa [Addr.add_lit] at this
  case sp b ver sz1 off len =>
    obtain ⟨⟨sz', e, l'⟩, hb, hx⟩ := Option.bind_eq_some_iff.1 hx
    simp only at hx
    split at hx
    · rename_i hc
      obtain ⟨rfl, hc⟩ := hc
      simp only [Option.some.injEq, Prod.mk.injEq] at hx
      obtain ⟨rfl, rfl, rfl⟩ := hx
      obtain ⟨_, _, hl, hrow⟩ := look_row h hb
      obtain ⟨A, cp, e1, h1, h2⟩ := hu.sp_inv _ hl
      obtain ⟨us, ho, hu', hp, h3⟩ := hrow
      have hll : ((l'.drop off).take len).length = len := by rw [List.length_take, List.length_drop]; omega
      have hfl : flat ((l'.drop off).take len) = ((flat l').drop (off * sz')).take (len * sz') := by
        have e1 : flat l' = flat (l'.take off) ++ (flat ((l'.drop off).take len) ++ flat ((l'.drop off).drop len)) := by
          rw [← flat_app, ← flat_app, List.take_append_drop, List.take_append_drop]
        have l1 : (flat (l'.take off)).length = off * sz' := by
          rw [flat_len _ (fun x hx => hu' x (List.mem_of_mem_take hx)), List.length_take]; congr 1; omega
        have l2 : (flat ((l'.drop off).take len)).length = len * sz' := by
          rw [flat_len _ (fun x hx => hu' x (List.mem_of_mem_drop (List.mem_of_mem_take hx))), hll]
        rw [e1, ← l1, List.drop_left, ← l2, List.take_left]
      refine ⟨A, cp, (us.drop (off * sz')).take (len * sz'), by rw [hll]; exact e1, by omega, fun x hx => hu' x (List.mem_of_mem_drop (List.mem_of_mem_take hx)), by rw [hfl]; exact (hp.drop _).take _,
        fun u hu => h3 u (List.mem_of_mem_drop (List.mem_of_mem_take hu)), ?_⟩
      rcases h2 with rfl | ⟨g, m, cap, h4, rfl⟩
      · exact .inl (by simp)
      · refine .inr ⟨g, off * sz', rfl, fun j u hj => ?_⟩
        rw [List.getElem?_take] at hj
        split at hj
        · rw [List.getElem?_drop] at hj
          have := ho.cells (g := g) (by rw [h4]; rfl) _ u hj
          rwa [Addr.add_lit, Nat.zero_add] at this
        · cases hj
    · cases hx

theorem bnds_sound {len cap l h : Nat} {lo hi : Option V} {lo' hi' : Option Value} {c : Cx} (hb : bnds len lo hi = some (l, h)) (hcap : len ≤ cap) (hlo : ∀ x, lo = some x → ∃ u, lo' = some u ∧ RV c u x) (hlo0 : lo = none → lo' = none)
    (hhi : ∀ x, hi = some x → ∃ u, hi' = some u ∧ RV c u x) (hhi0 : hi = none → hi' = none) (b : Bool) (w : World) : l ≤ h ∧ h ≤ len ∧ (Instr.sliceBounds b len cap lo' hi' none).run P w = .ok (l, h, cap) w := by
  unfold bnds at hb
  split at hb
  · rename_i hv lv hh hl
    split at hb
    · rename_i hc
      obtain ⟨c1, c2, c3⟩ := hc
      simp only [Option.some.injEq, Prod.mk.injEq] at hb
      obtain ⟨rfl, rfl⟩ := hb
      refine ⟨by omega, by omega, ?_⟩
      have hw : ((hv.toNat : Nat) : Int) = hv := by omega
      cases hi with
      | none =>
        obtain rfl := hhi0 rfl
        simp only [Option.some.injEq] at hh
        subst hh
        cases lo with
        | none =>
          obtain rfl := hlo0 rfl
          simp only [Option.some.injEq] at hl
          subst hl
          simp [Instr.sliceBounds]
        | some x =>
          obtain ⟨u, rfl, hu⟩ := hlo x rfl
          obtain ⟨k, rfl⟩ := asI_inv hl hu
          simp [Instr.sliceBounds, Instr.sliceBound, asIntOf, c1, c2]
      | some y =>
        obtain ⟨v, rfl, hv'⟩ := hhi y rfl
        obtain ⟨k', rfl⟩ := asI_inv hh hv'
        have c4 : hv ≤ (cap : Int) := by omega
        have c5 : 0 ≤ hv := by omega
        cases lo with
        | none =>
          obtain rfl := hlo0 rfl
          simp only [Option.some.injEq] at hl
          subst hl
          simp [Instr.sliceBounds, Instr.sliceBound, asIntOf, c4, c5]
        | some x =>
          obtain ⟨u, rfl, hu⟩ := hlo x rfl
          obtain ⟨k, rfl⟩ := asI_inv hl hu
          simp only [Instr.sliceBounds, Instr.sliceBound, asIntOf, Sem.run_bind, Sem.run_pure, Result.andThen_ok, Sem.run_ite, c4, c5, c1, hw, c2, and_self, if_true]
    · cases hb
  · cases hb

theorem slice_sound (H : Rel w0 I n s a w η) {t : TypeId} {x z : V} {u : Value} {lo hi : Option V} {lo' hi' : Option Value} (h : sliceV P s.st t x lo hi = some z) (hu : RV (cx w0 I s.st w η) u x)
    (hlo : ∀ x, lo = some x → ∃ u, lo' = some u ∧ RV (cx w0 I s.st w η) u x) (hlo0 : lo = none → lo' = none) (hhi : ∀ x, hi = some x → ∃ u, hi' = some u ∧ RV (cx w0 I s.st w η) u x) (hhi0 : hi = none → hi' = none) :
    ∃ r, (Instr.sliceAt t u lo' hi' none).run P w = .ok r w ∧ RV (cx w0 I s.st w η) r z := by
  unfold sliceV at h
  split at h
  · rename_i b hd
    rw [hu.s_inv]
    obtain ⟨⟨l, hh⟩, hb, rfl⟩ := Option.map_eq_some_iff.1 h
    obtain ⟨_, _, hr⟩ := bnds_sound (P := P) hb (Nat.le_refl _) hlo hlo0 hhi hhi0 false w
    exact ⟨_, by simp [Instr.sliceAt, Instr.slice, run_underlying hd, hr], .s _⟩
  · rename_i e fr sz l hd
    split at h
    case isFalse => cases h
    rename_i hsz
    obtain ⟨⟨i, j⟩, hb, rfl⟩ := Option.map_eq_some_iff.1 h
    cases hu.lst_inv with
    | lst k fr sz l A cp us hc hu' hl he h1 hr =>
      obtain ⟨c1, c2, hrun⟩ := bnds_sound (P := P) hb hc hlo hlo0 hhi hhi0 true w
      have hll : ((l.drop i).take (j - i)).length = j - i := by rw [List.length_take, List.length_drop]; omega
      refine ⟨.slice (if cp = i then A else A.map (·.add (i * sz))) (j - i) (cp - i), ?_, ?_⟩
      · simp [Instr.sliceAt, Instr.slice, run_underlying hd, hrun, run_sizeOf' hsz]
      · have hfl : flat ((l.drop i).take (j - i)) = ((flat l).drop (i * sz)).take ((j - i) * sz) := flat_sub l i (j - i) hu' (by omega)
        have hp : PW (RC w (cx w0 I s.st w η).own (cx w0 I s.st w η).fresh fr) ((us.drop (i * sz)).take ((j - i) * sz)) (flat ((l.drop i).take (j - i))) := by
          rw [hfl]; exact ((show PW _ us (flat l) from ⟨hl, he⟩).drop _).take _
        have := RC.lst (w := w) (own := (cx w0 I s.st w η).own) (fresh := (cx w0 I s.st w η).fresh) fr fr sz ((l.drop i).take (j - i)) (if cp = i then A else A.map (·.add (i * sz))) (cp - i) ((us.drop (i * sz)).take ((j - i) * sz))
          (by rw [hll]; omega) (fun x hx => hu' x (List.mem_of_mem_drop (List.mem_of_mem_take hx))) hp.1 hp.2 (fun u hu => h1 u (List.mem_of_mem_drop (List.mem_of_mem_take hu))) (by
            rcases hr with rfl | ⟨g, o, rfl, ho, hf, hcell⟩
            · exact .inl (by simp)
            · by_cases hci : cp = i
              · left
                have : j - i = 0 := by omega
                simp [this]
              · refine .inr ⟨g, o + i * sz, by simp [hci, Addr.add_lit], ho, hf, fun q u hq => ?_⟩
                rw [List.getElem?_take] at hq
                split at hq
                · rw [List.getElem?_drop] at hq
                  rw [Nat.add_assoc]
                  exact hcell _ u hq
                · cases hq)
        rw [hll] at this
        exact .lst _ _ _ _ this
  · rename_i e b ver hd
    obtain ⟨⟨sz, e', l⟩, hb, h2⟩ := Option.bind_eq_some_iff.1 h
    simp only at h2
    split at h2
    case isFalse => cases h2
    rename_i hsz
    obtain ⟨⟨i, j⟩, hbn, rfl⟩ := Option.map_eq_some_iff.1 h2
    obtain ⟨hver, hcont, hl, hrow⟩ := look_row H hb
    have e1 := hu.sw_inv _ hl
    rcases hrow.val with ⟨h1, h3⟩ | ⟨g, cap, h1, h3⟩
    · subst h3
      rw [h1] at e1
      subst e1
      obtain ⟨c1, c2, hrun⟩ := bnds_sound (P := P) hbn (Nat.le_refl _) hlo hlo0 hhi hhi0 true w
      simp only [List.length_nil] at c1 c2 hrun
      have hi0 : i = 0 := by omega
      have hj0 : j = 0 := by omega
      subst hi0
      subst hj0
      refine ⟨.slice none 0 0, ?_, .sp b ver sz _ _ _ rfl (by simp [cx, hver]) fun v0 _ => ⟨none, 0, rfl, Nat.le_refl _, .inl rfl⟩⟩
      simp [Instr.sliceAt, Instr.slice, run_underlying hd, hrun, run_sizeOf' hsz]
    · rw [h1] at e1
      subst e1
      obtain ⟨c1, c2, hrun⟩ := bnds_sound (P := P) hbn h3 hlo hlo0 hhi hhi0 true w
      refine ⟨.slice (if cap = i then some ⟨g, 0, none⟩ else some ⟨g, i * sz, none⟩) (j - i) (cap - i), ?_, .sp b ver sz _ _ _ rfl (by simp [cx, hver]) fun v0 hv0 => ?_⟩
      · simp [Instr.sliceAt, Instr.slice, run_underlying hd, hrun, run_sizeOf' hsz]
        split <;> simp [Addr.add_lit]
      · rw [hl] at hv0
        simp only [Option.some.injEq] at hv0
        subst hv0
        refine ⟨_, _, rfl, by omega, ?_⟩
        by_cases hci : cap = i
        · left; omega
        · right; exact ⟨g, _, cap, h1, by simp [hci]⟩
  · cases h

theorem len_sound (H : Rel w0 I n s a w η) {t : TypeId} {x z : V} {u : Value} (h : lenV P s.st t x = some z) (hu : RV (cx w0 I s.st w η) u x) (ty : TypeId) :
    ∃ r, (Builtin.len_ #[t] ty #[u]).run P w = .ok r w ∧ RV (cx w0 I s.st w η) r z := by
  unfold lenV at h
  split at h
  · rename_i b hd
    simp only [Option.some.injEq] at h
    subst h
    rw [hu.s_inv]
    exact ⟨_, by simp [Builtin.len_, run_underlying hd, goInt], .s _⟩
  · rename_i m e hd
    simp only [Option.some.injEq] at h
    subst h
    exact ⟨.int .i64 m, by simp [Builtin.len_, run_underlying hd, goInt], .s _⟩
  · rename_i e A m c hd
    simp only [Option.some.injEq] at h
    subst h
    rw [hu.s_inv]
    exact ⟨_, by simp [Builtin.len_, run_underlying hd, goInt], .s _⟩
  · rename_i e hd _
    obtain ⟨⟨sz, fr, l⟩, he, rfl⟩ := Option.map_eq_some_iff.1 h
    obtain ⟨A, cp, us, rfl, _⟩ := elems_sound H hu he
    exact ⟨.int .i64 l.length, by simp [Builtin.len_, run_underlying hd, goInt], .s _⟩
  · cases h

theorem indexAddr_sound (H : Rel w0 I n s a w η) {t : TypeId} {x y z : V} {u v : Value} (h : indexAddrV P s.st t x y = some z) (hu : RV (cx w0 I s.st w η) u x) (hv : RV (cx w0 I s.st w η) v y) :
    ∃ r, (Instr.indexAt t u v).run P w = .ok r w ∧ RV (cx w0 I s.st w η) r z := by
  unfold indexAddrV at h
  split at h
  · rename_i i m e b ver off hi hd
    obtain ⟨k, rfl⟩ := asI_inv hi hv
    obtain ⟨sz, hsz, h2⟩ := Option.bind_eq_some_iff.1 h
    split at h2
    case isFalse => cases h2
    rename_i hc
    obtain ⟨cs, hb, rfl⟩ := Option.map_eq_some_iff.1 h2
    obtain ⟨hver, _, hl, _⟩ := look_box H hb
    obtain ⟨hv2, hp⟩ := hu.ptr_inv
    obtain ⟨g, o, h1, rfl⟩ := hp _ hl
    refine ⟨.pointer (some ⟨g, o + off + i.toNat * sz, none⟩), ?_, .ptr b ver _ _ rfl hv2 fun v0 hv0 => ?_⟩
    · simp [Instr.indexAt, asIntOf, run_underlying hd, Instr.sureAddr, hc, run_sizeOf' hsz, Addr.add_lit]
    · rw [hl] at hv0
      simp only [Option.some.injEq] at hv0
      subst hv0
      exact ⟨g, o, h1, by rw [Nat.add_assoc]⟩
  · rename_i i m e l hi hd
    obtain ⟨k, rfl⟩ := asI_inv hi hv
    obtain ⟨sz, hsz, h2⟩ := Option.bind_eq_some_iff.1 h
    split at h2
    case isFalse => cases h2
    rename_i hc
    simp only [Option.some.injEq] at h2
    subst h2
    cases hu.ept_inv with
    | ept us l g o hl he hr =>
      refine ⟨.pointer (some ⟨g, o + i.toNat * sz, none⟩), ?_, .ept _ _ (.ept (us.drop (i.toNat * sz)) (l.drop (i.toNat * sz)) g (o + i.toNat * sz) (by simp [hl]) (fun j u x hu hx => ?_) ?_)⟩
      · simp [Instr.indexAt, asIntOf, run_underlying hd, Instr.sureAddr, hc, run_sizeOf' hsz, Addr.add_lit]
      · rw [List.getElem?_drop] at hu hx
        exact he _ u x hu hx
      · rcases hr with rfl | ⟨ho, hcell⟩
        · exact .inl (by simp)
        · refine .inr ⟨ho, fun j u hu => ?_⟩
          rw [List.getElem?_drop] at hu
          rw [Nat.add_assoc]
          exact hcell _ u hu
  · rename_i i e b ver hi hd
    obtain ⟨k, rfl⟩ := asI_inv hi hv
    obtain ⟨⟨sz, e', l⟩, hb, h2⟩ := Option.bind_eq_some_iff.1 h
    simp only at h2
    split at h2
    case isFalse => cases h2
    rename_i hc
    obtain ⟨hsz, hc1, hc2⟩ := hc
    simp only [Option.some.injEq] at h2
    subst h2
    obtain ⟨hver, _, hl, hrow⟩ := look_row H hb
    have e1 := hu.sw_inv _ hl
    rcases hrow.val with ⟨h1, h3⟩ | ⟨g, cap, h1, h3⟩
    · subst h3; simp at hc2; omega
    · rw [h1] at e1
      subst e1
      refine ⟨.pointer (some ⟨g, i.toNat * sz, none⟩), ?_, .rp b ver sz _ 0 _ rfl (by simp [cx, hver]) fun v0 hv0 => ?_⟩
      · simp [Instr.indexAt, asIntOf, run_underlying hd, hc1, hc2, run_sizeOf' hsz, Addr.add_lit]
      · rw [hl] at hv0
        simp only [Option.some.injEq] at hv0
        subst hv0
        exact ⟨g, _, cap, h1, by simp⟩
  · rename_i i e fr sz l hi hd
    obtain ⟨k, rfl⟩ := asI_inv hi hv
    split at h
    case isFalse => cases h
    rename_i hc
    obtain ⟨hsz, hc1, hsz0⟩ := hc
    obtain ⟨x, hx, rfl⟩ := Option.map_eq_some_iff.1 h
    have hlt : i.toNat < l.length := (List.getElem?_eq_some_iff.1 hx).1
    cases hu.lst_inv with
    | lst k fr sz l A cp us hcp hu' hl he h1 hr =>
      have hf := flat_at l i.toNat x hu' hx
      have hpw : PW (RC w (cx w0 I s.st w η).own (cx w0 I s.st w η).fresh fr) ((us.drop (i.toNat * sz)).take sz) x.cells := by
        rw [← hf]; exact ((show PW _ us (flat l) from ⟨hl, he⟩).drop _).take _
      have hi2 : i < (l.length : Int) := by omega
      rcases hr with rfl | ⟨g, o, rfl, ho, hfr, hcell⟩
      · have := hpw.1
        have h2 := hu' x (List.mem_of_getElem? hx)
        simp at this
        omega
      · refine ⟨.pointer (some ⟨g, o + i.toNat * sz, none⟩), ?_, .ept _ _ (.ept ((us.drop (i.toNat * sz)).take sz) x.cells g (o + i.toNat * sz) hpw.1 (fun j u y hu hy => (hpw.2 j u y hu hy).weak) (.inr ⟨ho, fun j u hj => ?_⟩))⟩
        · simp [Instr.indexAt, asIntOf, run_underlying hd, hc1, hi2, run_sizeOf' hsz, Addr.add_lit]
        · rw [List.getElem?_take] at hj
          split at hj
          · rw [List.getElem?_drop] at hj
            rw [Nat.add_assoc]
            exact hcell _ u hj
          · cases hj
  · cases h

theorem index_sound {t : TypeId} {x y z : V} {u v : Value} {c : Cx} (h : indexV P t x y = some z) (hu : RV c u x) (hv : RV c v y) :
    ∃ r, (Instr.index t u v).run P w = .ok r w ∧ RV c r z := by
  unfold indexV at h
  split at h
  · rename_i i b hi hd
    obtain ⟨k, rfl⟩ := asI_inv hi hv
    rw [hu.s_inv]
    split at h
    case isFalse => cases h
    rename_i hc
    obtain ⟨q, hq, rfl⟩ := Option.map_eq_some_iff.1 h
    exact ⟨_, by simp [Instr.index, asIntOf, run_underlying hd, hc, hq], .s _⟩
  · rename_i i m e l hi hd
    obtain ⟨k, rfl⟩ := asI_inv hi hv
    obtain ⟨sz, hsz, h2⟩ := Option.bind_eq_some_iff.1 h
    obtain ⟨ag, hag, h3⟩ := Option.bind_eq_some_iff.1 h2
    split at h3
    case isFalse => cases h3
    rename_i hc
    obtain ⟨us, rfl, hp⟩ := hu.agg_inv
    obtain ⟨r, hr, hv'⟩ := loadC_PW rv_agg h3 (hp.drop (i.toNat * sz))
    refine ⟨r, ?_, hr⟩
    cases ag with
    | true =>
      simp only [if_true] at hv'
      obtain ⟨h4, rfl⟩ := hv'
      simp only [Instr.index, asIntOf, Sem.run_bind, Sem.run_pure, Result.andThen_ok, run_underlying hd, hc, and_self, if_true, run_sizeOf' hsz, part, run_isAgg' hag]
      simp
    | false =>
      simp only [Bool.false_eq_true, if_false] at hv'
      rw [List.getElem?_drop] at hv'
      simp only [Nat.add_zero] at hv'
      simp [Instr.index, asIntOf, run_underlying hd, hc, run_sizeOf' hsz, part, run_isAgg' hag, hv']
  · cases h
end

end Go.Proofs.Ytegalldldcaocaa
