/-
Operations of the plain reckoning stand for those in memory: values put together, rows written out, rows that grow. No condition.
-/
import Derived.Test.YtbmgaebhcomjaaaAbT
namespace Go.Proofs.Ytbmgaebhcomjaaa
set_option linter.unusedSimpArgs false
set_option linter.unusedVariables false

section
variable {P : Program} {w0 w : World} {I : Ow} {n : Nat} {s : S} {env : Nat → V} {st : Nat → Blk} {a : Act} {η : Nat → Value}

theorem foldl_put (off : Nat) : ∀ (vs : List Value) (k : Nat) (A : Array Value), off + k + vs.length ≤ A.size →
    ((vs.zipIdx k).foldl (fun cs (p : Value × Nat) => cs.setIfInBounds (off + p.2) p.1) A).toList = A.toList.take (off + k) ++ vs ++ A.toList.drop (off + k + vs.length)
  | [], k, A, _ => by simp
  | v :: vs, k, A, h => by
    simp only [List.length_cons] at h
    rw [List.zipIdx_cons, List.foldl_cons, foldl_put off vs (k + 1) _ (by simp; omega)]
    have e := list_seg_step A.toList (off + k) v vs (by simp; omega)
    simpa [Array.toList_setIfInBounds, Nat.add_assoc] using e

theorem fill_sound {R : Value → V → Prop} (hcell : ∀ u x, R u x → PW R u.cells.toList x.cells) {ρ : Operand → V} {ρ' : Operand → Value} (hr : ∀ x, R (ρ' x) (ρ x)) (place : Nat → Option (Nat × Nat)) :
    ∀ (ps : List (Nat × Operand)) (cells cs : List V) (us : List Value), fillC place cells (ps.map fun p => (p.1, ρ p.2)) = some cs → PW R us cells →
      ∃ us', Instr.fill place us.toArray (ps.map fun p => (p.1, ρ' p.2)) = some us'.toArray ∧ PW R us' cs
  | [], cells, cs, us, h, hp => by
    simp only [List.map_nil, fillC, Option.some.injEq] at h
    subst h
    exact ⟨us, rfl, hp⟩
  | (i, x) :: ps, cells, cs, us, h, hp => by
    simp only [List.map_cons, fillC] at h
    split at h
    · cases h
    · rename_i off size hpl
      split at h
      case isFalse => cases h
      rename_i hc
      obtain ⟨h1, h2⟩ := hc
      have hx := hcell _ _ (hr x)
      have hsz : (ρ' x).cells.size = size := by rw [← h1, ← hx.1]; simp
      have hl : (ρ' x).cells.toList.length = (ρ x).cells.length := hx.1
      have hfit : off + 0 + (ρ' x).cells.toList.length ≤ us.toArray.size := by
        have := hp.1
        simp only [List.size_toArray]
        omega
      have hf := foldl_put off (ρ' x).cells.toList 0 us.toArray hfit
      obtain ⟨us', hu', hp'⟩ := fill_sound hcell hr place ps _ cs ((us.take off ++ (ρ' x).cells.toList ++ us.drop (off + (ρ' x).cells.toList.length))) h (hp.spl hx off)
      refine ⟨us', ?_, hp'⟩
      simp only [List.map_cons, Instr.fill, hpl]
      have hn : ((ρ' x).cells.size ≠ size || off + (ρ' x).cells.size > us.toArray.size) = false := by
        simp only [Bool.or_eq_false_iff, decide_eq_false_iff_not]
        simp at hfit ⊢
        exact ⟨hsz, by omega⟩
      rw [if_neg (by rw [hn]; simp)]
      have : (ρ' x).cells.zipIdx.foldl (fun cs (c, j) => cs.setIfInBounds (off + j) c) us.toArray = (us.take off ++ (ρ' x).cells.toList ++ us.drop (off + (ρ' x).cells.toList.length)).toArray := by
        apply Array.toList_inj.1
        rw [← Array.foldl_toList, Array.toList_zipIdx]
        simpa using hf
      rw [this]
      exact hu'

theorem build_sound (h : Rel w0 I n s a w η) {t : TypeId} {ps : List (Nat × Operand)} {cs : List V} (hb : buildC P t (ps.map fun p => (p.1, ev s.env p.2)) = some cs) :
    ∃ r, (Instr.build t (ps.map fun p => (p.1, a.eval p.2)).toArray).run P w = .ok r w ∧ RV (cx w0 I s.st w η) r (.agg cs) := by
  unfold buildC at hb
  split at hb
  · rename_i it m e hi hu
    split at hb
    · rename_i z ie hz hie
      obtain ⟨us', h1, h2⟩ := fill_sound (R := RV (cx w0 I s.st w η)) (fun u x h => h.cells) (ρ := ev s.env) (ρ' := a.eval) (fun x => h.eval x) (fun i => some (i * ie.size, ie.size)) ps _ cs z.cells.toList hb (PW.consts _ fun v => .s _)
      refine ⟨.agg us'.toArray, run_build w t _ us'.toArray ?_, rv_agg _ _ h2⟩
      simpa [Program.built, hi, hu, hz, hie] using h1
    · cases hb
  · rename_i it fs hi hu
    split at hb
    · rename_i z places hz hpl
      obtain ⟨us', h1, h2⟩ := fill_sound (R := RV (cx w0 I s.st w η)) (fun u x h => h.cells) (ρ := ev s.env) (ρ' := a.eval) (fun x => h.eval x) (places.toArray[·]?) ps _ cs z.cells.toList hb (PW.consts _ fun v => .s _)
      refine ⟨.agg us'.toArray, run_build w t _ us'.toArray ?_, rv_agg _ _ h2⟩
      simpa [Program.built, hi, hu, hz, hpl] using h1
    · cases hb
  · cases hb

/-- a row that is new: place d -/
theorem Rel.row (h : Rel w0 I n ⟨env, st⟩ a w η) {w' : World} {d sz e : Nat} {l : List V} {v' : Value} {us : List Value} (hg : w.grownBy w' none) (ho : OwnRow w' e sz v' l.length us)
    (hb : ∀ g, blkOf v' = some g → w.heap.size ≤ g) (hu : ∀ x ∈ l, x.cells.length = sz) (hp : PW (RC w (cx w0 I st w η).own (cx w0 I st w η).fresh true) us (flat l)) (h1 : ∀ u ∈ us, u.oneCell' = true) :
    ∃ η', Rel w0 I n ⟨env, ups st [(d, ⟨(st d).ver + 1, .row sz e l⟩)]⟩ a w' η' ∧ RV (cx w0 I (ups st [(d, ⟨(st d).ver + 1, .row sz e l⟩)]) w' η') v' (.sw d ((st d).ver + 1) l.length) := by
  refine ⟨upd η d v', ?_⟩
  obtain ⟨h2, hle⟩ := h.step (st' := ups st [(d, ⟨(st d).ver + 1, .row sz e l⟩)]) (w' := w') (η' := upd η d v') (fun b => b = d)
    hg.os hg.tape hg.output hg.size (fun b hb => by simp [ups, upd, hb]) (fun b hb => by subst hb; simp [ups, upd]) (fun b hb _ => by subst hb; simp [ups, upd])
    (fun g hlt hne => absurd (hg.block g hlt (by simp)) hne)
    (fun b g hbd _ hgb => by subst hbd; simp [upd] at hgb; exact .inl (hb g hgb))
    (fun b b' g hb hb' _ _ _ _ => hb.trans hb'.symm)
    (fun hle b hbd _ => by
      subst hbd
      simp only [ups, upd, if_pos]
      exact ⟨us, ho, hu, hp.imp fun u x hx => by have := hx.mono hle.cells; rw [← hle.fresh] at this; exact this, h1⟩)
  refine ⟨h2, .sw d _ _ _ ?_ (by simp [cx, ups, upd]) fun v0 hv0 => ?_⟩
  · rcases ho.2 with ⟨rfl, h0⟩ | ⟨g, o, cap, cur, fz, rfl, _⟩
    · rw [h0]; exact ⟨_, _, rfl⟩
    · exact ⟨_, _, rfl⟩
  · simp [cx, ups, upd, Cont.live] at hv0
    exact hv0

/-- .. of cells that may be one's own, too -/
theorem Rel.rowV (h : Rel w0 I n ⟨env, st⟩ a w η) {w' : World} {d sz e : Nat} {l : List V} {v' : Value} {us : List Value} (hg : w.grownBy w' none) (ho : OwnRow w' e sz v' l.length us)
    (hb : ∀ g, blkOf v' = some g → w.heap.size ≤ g) (hu : ∀ x ∈ l, x.cells.length = sz) (hp : PW (RV (cx w0 I st w η)) us (flat l)) (h1 : ∀ u ∈ us, u.oneCell' = true) :
    ∃ η', Rel w0 I n ⟨env, ups st [(d, ⟨(st d).ver + 1, .rowV sz e l⟩)]⟩ a w' η' ∧ RV (cx w0 I (ups st [(d, ⟨(st d).ver + 1, .rowV sz e l⟩)]) w' η') v' (.sw d ((st d).ver + 1) l.length) := by
  refine ⟨upd η d v', ?_⟩
  obtain ⟨h2, hle⟩ := h.step (st' := ups st [(d, ⟨(st d).ver + 1, .rowV sz e l⟩)]) (w' := w') (η' := upd η d v') (fun b => b = d)
    hg.os hg.tape hg.output hg.size (fun b hb => by simp [ups, upd, hb]) (fun b hb => by subst hb; simp [ups, upd]) (fun b hb _ => by subst hb; simp [ups, upd])
    (fun g hlt hne => absurd (hg.block g hlt (by simp)) hne)
    (fun b g hbd _ hgb => by subst hbd; simp [upd] at hgb; exact .inl (hb g hgb))
    (fun b b' g hb hb' _ _ _ _ => hb.trans hb'.symm)
    (fun hle b hbd _ => by
      subst hbd
      simp only [ups, upd, if_pos]
      exact ⟨us, ho, hu, hp.imp fun u x hx => hx.mono hle, h1⟩)
  refine ⟨h2, .sw d _ _ _ ?_ (by simp [cx, ups, upd]) fun v0 hv0 => ?_⟩
  · rcases ho.2 with ⟨rfl, h0⟩ | ⟨g, o, cap, cur, fz, rfl, _⟩
    · rw [h0]; exact ⟨_, _, rfl⟩
    · exact ⟨_, _, rfl⟩
  · simp [cx, ups, upd, Cont.live] at hv0
    exact hv0
/-- memory grows by what nobody names -/
theorem Rel.grow (h : Rel w0 I n ⟨env, st⟩ a w η) {w' : World} (hg : w.grownBy w' none) : Rel w0 I n ⟨env, st⟩ a w' η :=
  (h.step (st' := st) (w' := w') (η' := η) (fun _ => False) hg.os hg.tape hg.output hg.size (fun _ _ => ⟨rfl, rfl⟩) (fun _ h => h.elim) (fun _ h => h.elim)
    (fun g hlt hne => absurd (hg.block g hlt (by simp)) hne) (fun _ _ h => h.elim) (fun _ _ _ h => h.elim) (fun _ _ h => h.elim)).1

theorem scal_cells {x : V} (h : x.scal = true) : ∀ y ∈ x.cells, ∃ v, y = .s v := by
  intro y hy
  cases x <;> simp only [V.scal, reduceCtorEq, Bool.false_eq_true] at h
  case s v => cases v <;> simp [V.cells] at hy <;> first | exact ⟨_, hy⟩ | (obtain ⟨q, _, rfl⟩ := hy; exact ⟨_, rfl⟩)
  case agg l =>
    have := List.all_eq_true.1 h y hy
    split at this
    · exact ⟨_, rfl⟩
    · cases this
theorem scal_flat {l : List V} (h : l.all V.scal = true) : ∀ y ∈ flat l, ∃ v, y = .s v := by
  intro y hy
  simp only [flat, List.mem_flatMap] at hy
  obtain ⟨x, hx, hy⟩ := hy
  exact scal_cells (List.all_eq_true.1 h x hx) y hy
theorem scal_RC {own fresh own' fresh' : Nat → Prop} {k k' : Bool} {w w' : World} {us : List Value} {l : List V} (h : l.all V.scal = true) (hp : PW (RC w own fresh k) us (flat l)) : PW (RC w' own' fresh' k') us (flat l) :=
  hp.impm fun u x hx hr => by
    obtain ⟨v, rfl⟩ := scal_flat h x hx
    cases hr
    exact .s _ _

theorem append_sound (h : Rel w0 I n ⟨env, st⟩ a w η) {d : Nat} {t : TypeId} {x y z : V} {u v : Value} {us : List (Nat × Blk)} (ha : appendV P st d t x y = some (z, us)) (hu : RV (cx w0 I st w η) u x) (hv : RV (cx w0 I st w η) v y) (ty : TypeId) :
    ∃ r w' η', (Builtin.append_ #[t, t] ty #[u, v]).run P w = .ok r w' ∧ Rel w0 I n ⟨env, ups st us⟩ a w' η' ∧ RV (cx w0 I (ups st us) w' η') r z := by
  unfold appendV at ha
  split at ha
  case h_2 => cases ha
  rename_i e ht
  obtain ⟨sz, hsz, h2⟩ := Option.bind_eq_some_iff.1 ha
  obtain ⟨by_, hby, h3⟩ := Option.bind_eq_some_iff.1 h2
  obtain ⟨⟨ok, ys⟩, hys, h4⟩ := Option.bind_eq_some_iff.1 h3
  simp only at h4
  split at h4
  case isFalse => cases h4
  rename_i hc
  obtain ⟨hok, hsz0, hby0, hz⟩ := hc
  clear ha h2 h3
  -- the type of an element
  obtain ⟨zv, hzv, hzs⟩ : ∃ zv, zeroOf P e = some zv ∧ zv.cells.size = sz := by
    unfold zOk at hz
    split at hz
    · exact ⟨_, by assumption, by simpa using hz⟩
    · cases hz
  have hinfo : (P.info? e).map (fun i => (i.zero, i.size, i.bytes)) = some (some zv, sz, by_) := by
    unfold szOf at hsz
    unfold bytesOf at hby
    unfold zeroOf at hzv
    cases hi : P.info? e with
    | none => simp [hi] at hsz
    | some i =>
      simp [hi] at hsz hby hzv
      simp [hsz, hby, hzv]
  -- what is appended
  obtain ⟨A, cp, vs, hvv, hlen, hun, hpw, h1, hcell⟩ : ∃ A cp vs, v = .slice A ys.length cp ∧ ys.length ≤ cp ∧ (∀ x ∈ ys, x.cells.length = sz) ∧ PW (RC w (cx w0 I st w η).own (cx w0 I st w η).fresh true) vs (flat ys) ∧ (∀ u ∈ vs, u.oneCell' = true) ∧ Rd w A vs := by
    split at hys
    · simp only [Option.some.injEq, Prod.mk.injEq] at hys
      obtain ⟨rfl, rfl⟩ := hys
      exact ⟨none, 0, [], hv.s_inv, Nat.le_refl _, fun x hx => by simp at hx, PW.nil, fun u hu => by simp at hu, .inl rfl⟩
    · obtain ⟨⟨sz', fr, l⟩, hel, h5⟩ := Option.bind_eq_some_iff.1 hys
      simp only at h5
      split at h5
      case isFalse => cases h5
      rename_i hss
      subst hss
      simp only [Option.some.injEq, Prod.mk.injEq] at h5
      obtain ⟨rfl, rfl⟩ := h5
      obtain ⟨A, cp, vs, e1, e2, e3, e4, e5, e6⟩ := elems_sound h hv hel
      refine ⟨A, cp, vs, e1, e2, e3, ?_, e5, ?_⟩
      · simp only [Bool.or_eq_true] at hok
        rcases hok with rfl | hok
        · exact e4
        · exact scal_RC hok e4
      · rcases e6 with e6 | ⟨g, o, e7, e8⟩
        · exact .inl e6
        · exact .inr ⟨g, o, e7, e8⟩
  subst hvv
  have hvl : vs.length = ys.length * sz := by rw [hpw.1]; exact flat_len ys hun
  split at h4
  · -- to nothing
    split at h4
    case isFalse => cases h4
    rename_i hfit
    simp only [Option.some.injEq, Prod.mk.injEq] at h4
    obtain ⟨rfl, rfl⟩ := h4
    rw [hu.s_inv]
    obtain ⟨r, w', hr, ho, hg, hbl⟩ := run_append_rd' (P := P) w t ty e zv sz by_ ht hinfo hzs hsz0 hby0 (.slice none 0 0) 0 [] (OwnRow.nil w e sz) A ys.length cp vs hcell hvl h1 (by simpa [fits] using hfit)
    rw [Nat.zero_add, List.nil_append] at ho
    have hbk : ∀ g, blkOf r = some g → w.heap.size ≤ g := fun g hgb => by
      rcases hbl with hbl | hbl <;> rw [hbl] at hgb <;> simp [blkOf] at hgb
      omega
    obtain ⟨η', h6, h7⟩ := h.row (d := d) (w' := w') (v' := r) hg ho hbk hun hpw h1
    exact ⟨r, w', η', hr, h6, h7⟩
  · -- to a row of one's own
    rename_i x _
    obtain ⟨⟨b, ver, sz', e', l⟩, hb, h5⟩ := Option.bind_eq_some_iff.1 h4
    simp only at h5
    split at h5
    case isFalse => cases h5
    rename_i hcc
    obtain ⟨rfl, rfl, hfit⟩ := hcc
    simp only [Option.some.injEq, Prod.mk.injEq] at h5
    obtain ⟨rfl, rfl⟩ := h5
    obtain ⟨hver, ⟨l0, hcont⟩, hblk, hrow⟩ := own_sound h hu hb
    simp only at hver hcont
    obtain ⟨us0, ho0, hu0, hp0, h10⟩ := hrow
    obtain ⟨r, w', hr, ho, hg, hbl⟩ := run_append_rd' (P := P) w t ty e' zv sz' by_ ht hinfo hzs hsz0 hby0 u l.length us0 ho0 A ys.length cp vs hcell hvl h1 hfit
    have hlive : (st b).c.live = true := by rw [hcont]; rfl
    obtain ⟨h6, hle⟩ := h.step (st' := ups st [(b, ⟨ver + 1, .row sz' e' (l ++ ys)⟩)]) (w' := w') (η' := upd η b r) (fun j => j = b)
      hg.os hg.tape hg.output hg.size (fun j hj => by simp [ups, upd, hj]) (fun j hj => by subst hj; simp [ups, upd, hver]) (fun j hj _ => by subst hj; simp [ups, upd, hver])
      (fun g hlt hne => ⟨b, rfl, hlive, by
        rw [← hblk]
        refine Classical.byContradiction fun hnn => hne (hg.block g hlt fun e => hnn e.symm)⟩)
      (fun j g hj _ hgb => by
        subst hj
        simp [upd] at hgb
        rcases hbl with hbl | hbl
        · rw [hbl, hblk] at hgb
          exact .inr ⟨j, rfl, hlive, hgb⟩
        · rw [hbl] at hgb
          simp at hgb
          exact .inl (by omega))
      (fun j j' g hj hj' _ _ _ _ => hj.trans hj'.symm)
      (fun hle j hj _ => by
        subst hj
        simp only [ups, upd, if_pos]
        refine ⟨us0 ++ vs, by rw [List.length_append]; exact ho, fun x hx => ?_, ?_, fun u hu => ?_⟩
        · rcases List.mem_append.1 hx with hx | hx
          · exact hu0 x hx
          · exact hun x hx
        · rw [flat_app]
          refine PW.append (hp0.imp fun u x hx => ?_) (hpw.imp fun u x hx => ?_) <;> (have := hx.mono hle.cells; rw [← hle.fresh] at this; exact this)
        · rcases List.mem_append.1 hu with hu | hu
          · exact h10 u hu
          · exact h1 u hu)
    refine ⟨r, w', _, hr, h6, .sw b _ _ _ ?_ (by simp [cx, ups, upd]) fun v0 hv0 => ?_⟩
    · rcases ho.2 with ⟨h', h0⟩ | ⟨g, o, cap, cur, fz, h', _⟩
      · exact ⟨none, 0, by rw [h', h0]⟩
      · exact ⟨_, _, h'⟩
    · simp [cx, ups, upd, Cont.live] at hv0
      exact hv0
end

end Go.Proofs.Ytbmgaebhcomjaaa
