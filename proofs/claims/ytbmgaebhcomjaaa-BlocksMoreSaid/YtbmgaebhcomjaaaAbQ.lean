/-
Operations of the plain reckoning stand for those in memory: slices, lengths, texts. No condition.
-/
import Derived.Test.YtbmgaebhcomjaaaAbP
namespace Go.Proofs.Ytbmgaebhcomjaaa
set_option linter.unusedSimpArgs false
set_option linter.unusedVariables false

section
variable {P : Program} {w0 w : World} {I : Ow} {n : Nat} {s : S} {env : Nat → V} {st : Nat → Blk} {a : Act} {η : Nat → Value}

theorem RowR.part {own fresh : Nat → Prop} {v0 : Value} {sz e : Nat} {l : List V} (h : RowR w own fresh v0 sz e l) {off len cp : Nat} {A : Option Addr} (hp : PartOf sz off v0 (.slice A len cp)) (hl : off + len ≤ l.length) :
    RowR w own fresh (.slice A len cp) sz e ((l.drop off).take len) := by
  obtain ⟨us, ho, hu, hpw, h1⟩ := h
  have hll : ((l.drop off).take len).length = len := by rw [List.length_take, List.length_drop]; omega
  refine ⟨(us.drop (off * sz)).take (len * sz), ?_, fun x hx => hu x (List.mem_of_mem_drop (List.mem_of_mem_take hx)), ?_, fun u hu => h1 u (List.mem_of_mem_drop (List.mem_of_mem_take hu))⟩
  · rw [hll]; exact ho.part hl hp
  · rw [flat_sub l off len hu hl]
    exact (hpw.drop _).take _
theorem RowR.elems {own fresh : Nat → Prop} {v0 : Value} {sz e : Nat} {l : List V} (h : RowR w own fresh v0 sz e l) :
    ∃ A cp us, v0 = .slice A l.length cp ∧ l.length ≤ cp ∧ (∀ x ∈ l, x.cells.length = sz) ∧ PW (RC w own fresh true) us (flat l) ∧ (∀ u ∈ us, u.oneCell' = true) ∧
      (us = [] ∨ ∃ g o, A = some ⟨g, o, none⟩ ∧ ∀ j u, us[j]? = some u → w.cell? ⟨g, o + j, none⟩ = some u) := by
  obtain ⟨us, ho, hu', hp, h3⟩ := h
  rcases ho.val with ⟨h1, h2⟩ | ⟨g, o, cap, h1, h2⟩
  · have hl : l = [] := List.eq_nil_of_length_eq_zero h2
    subst hl
    exact ⟨none, 0, [], h1, Nat.le_refl _, fun x hx => by simp at hx, PW.nil, fun u hu => by simp at hu, .inl rfl⟩
  · exact ⟨_, cap, us, h1, h2, hu', hp, h3, .inr ⟨g, o, rfl, ho.cells h1⟩⟩
theorem PartOf.blk {sz i : Nat} {v0 v : Value} (h : PartOf sz i v0 v) : blkOf v = blkOf v0 := by
  rcases h with ⟨rfl, rfl⟩ | ⟨g, o, n, cap, len, o', rfl, rfl, _⟩ <;> rfl
/-- a row of one's own, or the part of one -/
theorem own_sound (h : Rel w0 I n s a w η) {x : V} {u : Value} (hu : RV (cx w0 I s.st w η) u x) {b ver sz e : Nat} {l : List V} (hx : ownRow s.st x = some (b, ver, sz, e, l)) :
    (s.st b).ver = ver ∧ (∃ l0, (s.st b).c = .row sz e l0) ∧ blkOf u = blkOf (η b) ∧ RowR w (cx w0 I s.st w η).own (cx w0 I s.st w η).fresh u sz e l := by
  cases x <;> simp only [ownRow, reduceCtorEq] at hx
  case sw b' ver' len' =>
    obtain ⟨⟨sz', e', l'⟩, hb, hx⟩ := Option.map_eq_some_iff.1 hx
    simp only [Prod.mk.injEq] at hx
    obtain ⟨rfl, rfl, rfl, rfl, rfl⟩ := hx
    obtain ⟨h1, h2, hl, hrow⟩ := look_row h hb
    have e1 := hu.sw_inv.2.2 _ hl
    subst e1
    exact ⟨h1, ⟨_, h2⟩, rfl, hrow⟩
  case sp b' ver' sz1 off len' =>
    obtain ⟨⟨sz', e', l'⟩, hb, hx⟩ := Option.bind_eq_some_iff.1 hx
    simp only at hx
    split at hx
    case isFalse => cases hx
    rename_i hc
    obtain ⟨rfl, hc⟩ := hc
    simp only [Option.some.injEq, Prod.mk.injEq] at hx
    obtain ⟨rfl, rfl, rfl, rfl, rfl⟩ := hx
    obtain ⟨h1, h2, hl, hrow⟩ := look_row h hb
    obtain ⟨⟨A, cp, rfl, hlc⟩, _, hp⟩ := hu.sp_inv
    exact ⟨h1, ⟨_, h2⟩, (hp _ hl).blk, hrow.part (hp _ hl) hc⟩

/-- what is known of a list that is read -/
theorem elems_sound (h : Rel w0 I n s a w η) {x : V} {u : Value} (hu : RV (cx w0 I s.st w η) u x) {sz : Nat} {fr : Bool} {l : List V} (hx : elemsOf s.st x = some (sz, fr, l)) :
    ∃ A cp us, u = .slice A l.length cp ∧ l.length ≤ cp ∧ (∀ x ∈ l, x.cells.length = sz) ∧ PW (RC w (cx w0 I s.st w η).own (cx w0 I s.st w η).fresh fr) us (flat l) ∧ (∀ u ∈ us, u.oneCell' = true) ∧
      (us = [] ∨ ∃ g o, A = some ⟨g, o, none⟩ ∧ ∀ j u, us[j]? = some u → w.cell? ⟨g, o + j, none⟩ = some u) := by
  cases x <;> simp only [elemsOf, reduceCtorEq] at hx
  case lst fr' sz' l' =>
    simp only [Option.some.injEq, Prod.mk.injEq] at hx
    obtain ⟨rfl, rfl, rfl⟩ := hx
    cases hu.lst_inv with
    | lst k fr sz l A cp us hc hu hl he h1 hr =>
      refine ⟨A, cp, us, rfl, hc, hu, ⟨hl, he⟩, h1, ?_⟩
      rcases hr with hr | ⟨g, o, hA, _, _, hc⟩
      · exact .inl hr
      · exact .inr ⟨g, o, hA, hc⟩
  case sw b ver len =>
    obtain ⟨⟨sz', e, l'⟩, hb, hx⟩ := Option.map_eq_some_iff.1 hx
    simp only [Prod.mk.injEq] at hx
    obtain ⟨rfl, rfl, rfl⟩ := hx
    obtain ⟨_, _, _, hrow⟩ := own_sound h hu (b := b) (ver := ver) (sz := sz') (e := e) (l := l') (by simp [ownRow, hb])
    exact hrow.elems
  case sp b ver sz1 off len =>
    obtain ⟨⟨sz', e, l'⟩, hb, hx⟩ := Option.bind_eq_some_iff.1 hx
    simp only at hx
    split at hx
    case isFalse => cases hx
    rename_i hc
    simp only [Option.some.injEq, Prod.mk.injEq] at hx
    obtain ⟨rfl, rfl, rfl⟩ := hx
    obtain ⟨_, _, _, hrow⟩ := own_sound h hu (b := b) (ver := ver) (sz := sz') (e := e) (l := (l'.drop off).take len) (by simp [ownRow, hb, hc])
    rw [hc.1] at hrow
    exact hrow.elems

theorem bnds_sound {len cap l h : Nat} {lo hi : Option V} {lo' hi' : Option Value} {c : Cx} (hb : bnds len lo hi = some (l, h)) (hcap : len ≤ cap) (hlo : ∀ x, lo = some x → ∃ u, lo' = some u ∧ RV c u x) (hlo0 : lo = none → lo' = none)
    (hhi : ∀ x, hi = some x → ∃ u, hi' = some u ∧ RV c u x) (hhi0 : hi = none → hi' = none) (b : Bool) (w : World) : l ≤ h ∧ h ≤ len ∧ (Instr.sliceBounds b len cap lo' hi' none).run P w = .ok (l, h, cap) w := by
  unfold bnds at hb
  split at hb
  · rename_i hv lv hh hl
    split at hb
    · rename_i hc
      obtain ⟨c1, c2, c3⟩ := hc
      simp only [Option.some.injEq, Prod.mk.injEq] at hb
      obtain ⟨rfl, rfl⟩ := hb
      refine ⟨by omega, by omega, ?_⟩
      have hw : ((hv.toNat : Nat) : Int) = hv := by omega
      cases hi with
      | none =>
        obtain rfl := hhi0 rfl
        simp only [Option.some.injEq] at hh
        subst hh
        cases lo with
        | none =>
          obtain rfl := hlo0 rfl
          simp only [Option.some.injEq] at hl
          subst hl
          simp [Instr.sliceBounds]
        | some x =>
          obtain ⟨u, rfl, hu⟩ := hlo x rfl
          obtain ⟨k, rfl⟩ := asI_inv hl hu
          simp [Instr.sliceBounds, Instr.sliceBound, asIntOf, c1, c2]
      | some y =>
        obtain ⟨v, rfl, hv'⟩ := hhi y rfl
        obtain ⟨k', rfl⟩ := asI_inv hh hv'
        have c4 : hv ≤ (cap : Int) := by omega
        have c5 : 0 ≤ hv := by omega
        cases lo with
        | none =>
          obtain rfl := hlo0 rfl
          simp only [Option.some.injEq] at hl
          subst hl
          simp [Instr.sliceBounds, Instr.sliceBound, asIntOf, c4, c5]
        | some x =>
          obtain ⟨u, rfl, hu⟩ := hlo x rfl
          obtain ⟨k, rfl⟩ := asI_inv hl hu
          simp only [Instr.sliceBounds, Instr.sliceBound, asIntOf, Sem.run_bind, Sem.run_pure, Result.andThen_ok, Sem.run_ite, c4, c5, c1, hw, c2, and_self, if_true]
    · cases hb
  · cases hb

theorem slice_sound (H : Rel w0 I n s a w η) {t : TypeId} {x z : V} {u : Value} {lo hi : Option V} {lo' hi' : Option Value} (h : sliceV P s.st t x lo hi = some z) (hu : RV (cx w0 I s.st w η) u x)
    (hlo : ∀ x, lo = some x → ∃ u, lo' = some u ∧ RV (cx w0 I s.st w η) u x) (hlo0 : lo = none → lo' = none) (hhi : ∀ x, hi = some x → ∃ u, hi' = some u ∧ RV (cx w0 I s.st w η) u x) (hhi0 : hi = none → hi' = none) :
    ∃ r, (Instr.sliceAt t u lo' hi' none).run P w = .ok r w ∧ RV (cx w0 I s.st w η) r z := by
  unfold sliceV at h
  split at h
  · rename_i b hd
    rw [hu.s_inv]
    obtain ⟨⟨l, hh⟩, hb, rfl⟩ := Option.map_eq_some_iff.1 h
    obtain ⟨_, _, hr⟩ := bnds_sound (P := P) hb (Nat.le_refl _) hlo hlo0 hhi hhi0 false w
    exact ⟨_, by simp [Instr.sliceAt, Instr.slice, run_underlying hd, hr], .s _⟩
  · rename_i e fr sz l hd
    split at h
    case isFalse => cases h
    rename_i hsz
    obtain ⟨⟨i, j⟩, hb, rfl⟩ := Option.map_eq_some_iff.1 h
    cases hu.lst_inv with
    | lst k fr sz l A cp us hc hu' hl he h1 hr =>
      obtain ⟨c1, c2, hrun⟩ := bnds_sound (P := P) hb hc hlo hlo0 hhi hhi0 true w
      have hll : ((l.drop i).take (j - i)).length = j - i := by rw [List.length_take, List.length_drop]; omega
      refine ⟨.slice (if cp = i then A else A.map (·.add (i * sz))) (j - i) (cp - i), ?_, ?_⟩
      · simp [Instr.sliceAt, Instr.slice, run_underlying hd, hrun, run_sizeOf' hsz]
      · have hfl : flat ((l.drop i).take (j - i)) = ((flat l).drop (i * sz)).take ((j - i) * sz) := flat_sub l i (j - i) hu' (by omega)
        have hp : PW (RC w (cx w0 I s.st w η).own (cx w0 I s.st w η).fresh fr) ((us.drop (i * sz)).take ((j - i) * sz)) (flat ((l.drop i).take (j - i))) := by
          rw [hfl]; exact ((show PW _ us (flat l) from ⟨hl, he⟩).drop _).take _
        have := RC.lst (w := w) (own := (cx w0 I s.st w η).own) (fresh := (cx w0 I s.st w η).fresh) fr fr sz ((l.drop i).take (j - i)) (if cp = i then A else A.map (·.add (i * sz))) (cp - i) ((us.drop (i * sz)).take ((j - i) * sz))
          (by rw [hll]; omega) (fun x hx => hu' x (List.mem_of_mem_drop (List.mem_of_mem_take hx))) hp.1 hp.2 (fun u hu => h1 u (List.mem_of_mem_drop (List.mem_of_mem_take hu))) (by
            rcases hr with rfl | ⟨g, o, rfl, ho, hf, hcell⟩
            · exact .inl (by simp)
            · by_cases hci : cp = i
              · left
                have : j - i = 0 := by omega
                simp [this]
              · refine .inr ⟨g, o + i * sz, by simp [hci, Addr.add_lit], ho, hf, fun q u hq => ?_⟩
                rw [List.getElem?_take] at hq
                split at hq
                · rw [List.getElem?_drop] at hq
                  rw [Nat.add_assoc]
                  exact hcell _ u hq
                · cases hq)
        rw [hll] at this
        exact .lst _ _ _ _ this
  · rename_i e b ver len hd
    obtain ⟨⟨sz, e', l⟩, hb, h2⟩ := Option.bind_eq_some_iff.1 h
    simp only at h2
    split at h2
    case isFalse => cases h2
    rename_i hsz
    obtain ⟨⟨i, j⟩, hbn, rfl⟩ := Option.map_eq_some_iff.1 h2
    obtain ⟨hver, hcont, hl, hrow⟩ := look_any H hb
    have e1 := hu.sw_inv.2.2 _ hl
    rcases hrow.val with ⟨h1, h3⟩ | ⟨g, o, cap, h1, h3⟩
    · subst h3
      rw [h1] at e1
      subst e1
      obtain ⟨c1, c2, hrun⟩ := bnds_sound (P := P) hbn (Nat.le_refl _) hlo hlo0 hhi hhi0 true w
      simp only [List.length_nil] at c1 c2 hrun
      have hi0 : i = 0 := by omega
      have hj0 : j = 0 := by omega
      subst hi0
      subst hj0
      refine ⟨.slice none 0 0, ?_, .sp b ver sz _ _ _ ⟨_, _, rfl, Nat.le_refl _⟩ (by simp [cx, hver]) fun v0 hv0 => ?_⟩
      · simp [Instr.sliceAt, Instr.slice, run_underlying hd, hrun, run_sizeOf' hsz]
      · rw [hl] at hv0
        simp only [Option.some.injEq] at hv0
        subst hv0
        exact .inl ⟨h1, rfl⟩
    · rw [h1] at e1
      subst e1
      obtain ⟨c1, c2, hrun⟩ := bnds_sound (P := P) hbn h3 hlo hlo0 hhi hhi0 true w
      refine ⟨.slice (some ⟨g, if cap = i then o else o + i * sz, none⟩) (j - i) (cap - i), ?_, .sp b ver sz _ _ _ ⟨_, _, rfl, by omega⟩ (by simp [cx, hver]) fun v0 hv0 => ?_⟩
      · simp [Instr.sliceAt, Instr.slice, run_underlying hd, hrun, run_sizeOf' hsz]
        split <;> simp [Addr.add_lit]
      · rw [hl] at hv0
        simp only [Option.some.injEq] at hv0
        subst hv0
        refine .inr ⟨g, o, _, cap, _, _, h1, rfl, by omega, ?_⟩
        by_cases hci : cap = i
        · right; rw [if_pos hci]; exact ⟨hci, by omega⟩
        · left; rw [if_neg hci]
  · rename_i e b ver sz off len hd
    obtain ⟨⟨sz', e', l⟩, hb, h2⟩ := Option.bind_eq_some_iff.1 h
    simp only at h2
    split at h2
    case isFalse => cases h2
    rename_i hsz
    obtain ⟨⟨i, j⟩, hbn, rfl⟩ := Option.map_eq_some_iff.1 h2
    obtain ⟨hver, hcont, hl, hrow⟩ := look_any H hb
    obtain ⟨⟨A, cp, rfl, hlc⟩, _, hpo⟩ := hu.sp_inv
    obtain ⟨c1, c2, hrun⟩ := bnds_sound (P := P) hbn hlc hlo hlo0 hhi hhi0 true w
    rcases hpo _ hl with ⟨h1, h3⟩ | ⟨g, o, m, cap, len', o', h1, h3, hoc, hA⟩
    · cases h3
      have hi0 : i = 0 := by omega
      have hj0 : j = 0 := by omega
      subst hi0
      subst hj0
      refine ⟨.slice none 0 0, ?_, .sp b ver sz _ _ _ ⟨_, _, rfl, Nat.le_refl _⟩ (by simp [cx, hver]) fun v0 hv0 => ?_⟩
      · simp [Instr.sliceAt, Instr.slice, run_underlying hd, hrun, run_sizeOf' hsz]
      · rw [hl] at hv0
        simp only [Option.some.injEq] at hv0
        subst hv0
        exact .inl ⟨h1, rfl⟩
    · cases h3
      refine ⟨.slice (some ⟨g, if cap - off = i then o' else o' + i * sz, none⟩) (j - i) (cap - off - i), ?_, .sp b ver sz _ _ _ ⟨_, _, rfl, by omega⟩ (by simp [cx, hver]) fun v0 hv0 => ?_⟩
      · simp [Instr.sliceAt, Instr.slice, run_underlying hd, hrun, run_sizeOf' hsz]
        split <;> simp [Addr.add_lit]
      · rw [hl] at hv0
        simp only [Option.some.injEq] at hv0
        subst hv0
        refine .inr ⟨g, o, m, cap, _, _, h1, by rw [Nat.sub_sub], by omega, ?_⟩
        have hmul : o + (off + i) * sz = o + off * sz + i * sz := by rw [Nat.add_mul]; omega
        by_cases hci : cap - off = i
        · right
          rw [if_pos hci]
          refine ⟨by omega, ?_⟩
          rw [hmul]
          rcases hA with hA | ⟨_, hA⟩
          · rw [hA]; omega
          · omega
        · left
          rw [if_neg hci, hmul]
          rcases hA with hA | ⟨hA, _⟩
          · rw [hA]
          · omega
  · rename_i m e b ver off hd
    obtain ⟨cs, hb, h2⟩ := Option.bind_eq_some_iff.1 h
    split at h2
    case isFalse => cases h2
    rename_i hsz
    obtain ⟨⟨i, j⟩, hbn, rfl⟩ := Option.map_eq_some_iff.1 h2
    obtain ⟨hver, hcont, hl, _⟩ := look_box H hb
    obtain ⟨_, _, hp⟩ := hu.ptr_inv
    obtain ⟨g, o, h1, rfl⟩ := hp _ hl
    obtain ⟨c1, c2, hrun⟩ := bnds_sound (P := P) hbn (Nat.le_refl _) hlo hlo0 hhi hhi0 false w
    refine ⟨.slice (some (if m = i then ⟨g, o + off, none⟩ else ⟨g, o + off + i, none⟩)) (j - i) (m - i), ?_, .bp b ver _ _ _ ⟨_, _, rfl, by omega⟩ (by simp [cx, hver]) fun v0 hv0 => ?_⟩
    · simp [Instr.sliceAt, Instr.sureAddr, run_underlying hd, hrun, run_sizeOf' hsz, Addr.add_lit]
    · rw [hl] at hv0
      simp only [Option.some.injEq] at hv0
      subst hv0
      by_cases hmi : m = i
      · left; omega
      · right
        rw [if_neg hmi]
        exact ⟨g, o, m - i, h1, by rw [Nat.add_assoc]⟩
  · rename_i arr b ver off hd
    split at h
    case h_2 => cases h
    rename_i m e harr
    obtain ⟨cs, hb, h2⟩ := Option.bind_eq_some_iff.1 h
    split at h2
    case isFalse => cases h2
    rename_i hsz
    obtain ⟨⟨i, j⟩, hbn, rfl⟩ := Option.map_eq_some_iff.1 h2
    obtain ⟨hver, hcont, hl, _⟩ := look_box H hb
    obtain ⟨_, _, hp⟩ := hu.ptr_inv
    obtain ⟨g, o, h1, rfl⟩ := hp _ hl
    obtain ⟨c1, c2, hrun⟩ := bnds_sound (P := P) hbn (Nat.le_refl _) hlo hlo0 hhi hhi0 false w
    refine ⟨.slice (some (if m = i then ⟨g, o + off, none⟩ else ⟨g, o + off + i, none⟩)) (j - i) (m - i), ?_, .bp b ver _ _ _ ⟨_, _, rfl, by omega⟩ (by simp [cx, hver]) fun v0 hv0 => ?_⟩
    · simp [Instr.sliceAt, Instr.slice, run_underlying hd, run_underlying harr, hrun, run_sizeOf' hsz, asAddr, Addr.add_lit]
    · rw [hl] at hv0
      simp only [Option.some.injEq] at hv0
      subst hv0
      by_cases hmi : m = i
      · left; omega
      · right
        rw [if_neg hmi]
        exact ⟨g, o, m - i, h1, by rw [Nat.add_assoc]⟩
  · cases h

theorem len_sound (H : Rel w0 I n s a w η) {t : TypeId} {x z : V} {u : Value} (h : lenV P s.st t x = some z) (hu : RV (cx w0 I s.st w η) u x) (ty : TypeId) :
    ∃ r, (Builtin.len_ #[t] ty #[u]).run P w = .ok r w ∧ RV (cx w0 I s.st w η) r z := by
  unfold lenV at h
  split at h
  · rename_i b hd
    simp only [Option.some.injEq] at h
    subst h
    rw [hu.s_inv]
    exact ⟨_, by simp [Builtin.len_, run_underlying hd, goInt], .s _⟩
  · rename_i m e hd
    simp only [Option.some.injEq] at h
    subst h
    exact ⟨.int .i64 m, by simp [Builtin.len_, run_underlying hd, goInt], .s _⟩
  · rename_i e A m c hd
    simp only [Option.some.injEq] at h
    subst h
    rw [hu.s_inv]
    exact ⟨_, by simp [Builtin.len_, run_underlying hd, goInt], .s _⟩
  · rename_i e b ver m hd
    simp only [Option.some.injEq] at h
    subst h
    obtain ⟨⟨A, cp, rfl⟩, _, _⟩ := hu.sw_inv
    exact ⟨_, by simp [Builtin.len_, run_underlying hd, goInt], .s _⟩
  · rename_i e b ver sz off m hd
    simp only [Option.some.injEq] at h
    subst h
    obtain ⟨⟨A, cp, rfl, _⟩, _, _⟩ := hu.sp_inv
    exact ⟨_, by simp [Builtin.len_, run_underlying hd, goInt], .s _⟩
  · rename_i e b ver off m hd
    simp only [Option.some.injEq] at h
    subst h
    obtain ⟨⟨A, cp, rfl, _⟩, _, _⟩ := hu.bp_inv
    exact ⟨_, by simp [Builtin.len_, run_underlying hd, goInt], .s _⟩
  · rename_i e hd _ _ _ _
    obtain ⟨⟨sz, fr, l⟩, he, rfl⟩ := Option.map_eq_some_iff.1 h
    obtain ⟨A, cp, us, rfl, _⟩ := elems_sound H hu he
    exact ⟨.int .i64 l.length, by simp [Builtin.len_, run_underlying hd, goInt], .s _⟩
  · cases h

theorem indexAddr_sound (H : Rel w0 I n s a w η) {t : TypeId} {x y z : V} {u v : Value} (h : indexAddrV P s.st t x y = some z) (hu : RV (cx w0 I s.st w η) u x) (hv : RV (cx w0 I s.st w η) v y) :
    ∃ r, (Instr.indexAt t u v).run P w = .ok r w ∧ RV (cx w0 I s.st w η) r z := by
  unfold indexAddrV at h
  split at h
  · rename_i i m e b ver off hi hd
    obtain ⟨k, rfl⟩ := asI_inv hi hv
    obtain ⟨sz, hsz, h2⟩ := Option.bind_eq_some_iff.1 h
    split at h2
    case isFalse => cases h2
    rename_i hc
    obtain ⟨cs, hb, rfl⟩ := Option.map_eq_some_iff.1 h2
    obtain ⟨hver, _, hl, _⟩ := look_box H hb
    obtain ⟨_, hv2, hp⟩ := hu.ptr_inv
    obtain ⟨g, o, h1, rfl⟩ := hp _ hl
    refine ⟨.pointer (some ⟨g, o + off + i.toNat * sz, none⟩), ?_, .ptr b ver _ _ ⟨_, rfl⟩ hv2 fun v0 hv0 => ?_⟩
    · simp [Instr.indexAt, asIntOf, run_underlying hd, Instr.sureAddr, hc, run_sizeOf' hsz, Addr.add_lit]
    · rw [hl] at hv0
      simp only [Option.some.injEq] at hv0
      subst hv0
      exact ⟨g, o, h1, by rw [Nat.add_assoc]⟩
  · rename_i i m e l hi hd
    obtain ⟨k, rfl⟩ := asI_inv hi hv
    obtain ⟨sz, hsz, h2⟩ := Option.bind_eq_some_iff.1 h
    split at h2
    case isFalse => cases h2
    rename_i hc
    simp only [Option.some.injEq] at h2
    subst h2
    cases hu.ept_inv with
    | ept us l g o hl he hr =>
      refine ⟨.pointer (some ⟨g, o + i.toNat * sz, none⟩), ?_, .ept _ _ (.ept (us.drop (i.toNat * sz)) (l.drop (i.toNat * sz)) g (o + i.toNat * sz) (by simp [hl]) (fun j u x hu hx => ?_) ?_)⟩
      · simp [Instr.indexAt, asIntOf, run_underlying hd, Instr.sureAddr, hc, run_sizeOf' hsz, Addr.add_lit]
      · rw [List.getElem?_drop] at hu hx
        exact he _ u x hu hx
      · rcases hr with rfl | ⟨ho, hcell⟩
        · exact .inl (by simp)
        · refine .inr ⟨ho, fun j u hu => ?_⟩
          rw [List.getElem?_drop] at hu
          rw [Nat.add_assoc]
          exact hcell _ u hu
  · rename_i i e b ver len hi hd
    obtain ⟨k, rfl⟩ := asI_inv hi hv
    obtain ⟨⟨sz, e', l⟩, hb, h2⟩ := Option.bind_eq_some_iff.1 h
    simp only at h2
    split at h2
    case isFalse => cases h2
    rename_i hc
    obtain ⟨hsz, hc1, hc2⟩ := hc
    simp only [Option.some.injEq] at h2
    subst h2
    obtain ⟨hver, _, hl, hrow⟩ := look_any H hb
    have e1 := hu.sw_inv.2.2 _ hl
    rcases hrow.val with ⟨h1, h3⟩ | ⟨g, o, cap, h1, h3⟩
    · subst h3; simp at hc2; omega
    · rw [h1] at e1
      subst e1
      refine ⟨.pointer (some ⟨g, o + i.toNat * sz, none⟩), ?_, .rp b ver sz _ 0 _ ⟨_, rfl⟩ (by simp [cx, hver]) fun v0 hv0 => ?_⟩
      · simp [Instr.indexAt, asIntOf, run_underlying hd, hc1, hc2, run_sizeOf' hsz, Addr.add_lit]
      · rw [hl] at hv0
        simp only [Option.some.injEq] at hv0
        subst hv0
        exact ⟨g, o, _, cap, h1, by simp⟩
  · rename_i i e b ver sz off len hi hd
    obtain ⟨k, rfl⟩ := asI_inv hi hv
    obtain ⟨⟨sz', e', l⟩, hb, h2⟩ := Option.bind_eq_some_iff.1 h
    simp only at h2
    split at h2
    case isFalse => cases h2
    rename_i hc
    obtain ⟨hsz, hc1, hc2⟩ := hc
    simp only [Option.some.injEq] at h2
    subst h2
    obtain ⟨hver, _, hl, hrow⟩ := look_any H hb
    obtain ⟨⟨A, cp, rfl, hlc⟩, _, hpo⟩ := hu.sp_inv
    rcases hpo _ hl with ⟨h1, h3⟩ | ⟨g, o, m, cap, len', o', h1, h3, hoc, hA⟩
    · cases h3
      simp at hc2; omega
    · cases h3
      have ho' : o' = o + off * sz := by
        rcases hA with hA | ⟨hA, _⟩
        · exact hA
        · omega
      refine ⟨.pointer (some ⟨g, o' + i.toNat * sz, none⟩), ?_, .rp b ver sz _ 0 _ ⟨_, rfl⟩ (by simp [cx, hver]) fun v0 hv0 => ?_⟩
      · simp [Instr.indexAt, asIntOf, run_underlying hd, hc1, hc2, run_sizeOf' hsz, Addr.add_lit]
      · rw [hl] at hv0
        simp only [Option.some.injEq] at hv0
        subst hv0
        refine ⟨g, o, m, cap, h1, ?_⟩
        rw [ho', Nat.add_mul]
        simp [Nat.add_assoc]
  · rename_i i e fr sz l hi hd
    obtain ⟨k, rfl⟩ := asI_inv hi hv
    split at h
    case isFalse => cases h
    rename_i hc
    obtain ⟨hsz, hc1, hsz0⟩ := hc
    obtain ⟨x, hx, rfl⟩ := Option.map_eq_some_iff.1 h
    have hlt : i.toNat < l.length := (List.getElem?_eq_some_iff.1 hx).1
    cases hu.lst_inv with
    | lst k fr sz l A cp us hcp hu' hl he h1 hr =>
      have hf := flat_at l i.toNat x hu' hx
      have hpw : PW (RC w (cx w0 I s.st w η).own (cx w0 I s.st w η).fresh fr) ((us.drop (i.toNat * sz)).take sz) x.cells := by
        rw [← hf]; exact ((show PW _ us (flat l) from ⟨hl, he⟩).drop _).take _
      have hi2 : i < (l.length : Int) := by omega
      rcases hr with rfl | ⟨g, o, rfl, ho, hfr, hcell⟩
      · have := hpw.1
        have h2 := hu' x (List.mem_of_getElem? hx)
        simp at this
        omega
      · refine ⟨.pointer (some ⟨g, o + i.toNat * sz, none⟩), ?_, .ept _ _ (.ept ((us.drop (i.toNat * sz)).take sz) x.cells g (o + i.toNat * sz) hpw.1 (fun j u y hu hy => (hpw.2 j u y hu hy).weak) (.inr ⟨ho, fun j u hj => ?_⟩))⟩
        · simp [Instr.indexAt, asIntOf, run_underlying hd, hc1, hi2, run_sizeOf' hsz, Addr.add_lit]
        · rw [List.getElem?_take] at hj
          split at hj
          · rw [List.getElem?_drop] at hj
            rw [Nat.add_assoc]
            exact hcell _ u hj
          · cases hj
  · cases h

theorem index_sound {t : TypeId} {x y z : V} {u v : Value} {c : Cx} (h : indexV P t x y = some z) (hu : RV c u x) (hv : RV c v y) :
    ∃ r, (Instr.index t u v).run P w = .ok r w ∧ RV c r z := by
  unfold indexV at h
  split at h
  · rename_i i b hi hd
    obtain ⟨k, rfl⟩ := asI_inv hi hv
    rw [hu.s_inv]
    split at h
    case isFalse => cases h
    rename_i hc
    obtain ⟨q, hq, rfl⟩ := Option.map_eq_some_iff.1 h
    exact ⟨_, by simp [Instr.index, asIntOf, run_underlying hd, hc, hq], .s _⟩
  · rename_i i m e l hi hd
    obtain ⟨k, rfl⟩ := asI_inv hi hv
    obtain ⟨sz, hsz, h2⟩ := Option.bind_eq_some_iff.1 h
    obtain ⟨ag, hag, h3⟩ := Option.bind_eq_some_iff.1 h2
    split at h3
    case isFalse => cases h3
    rename_i hc
    obtain ⟨us, rfl, hp⟩ := hu.agg_inv
    obtain ⟨r, hr, hv'⟩ := loadC_PW rv_agg h3 (hp.drop (i.toNat * sz))
    refine ⟨r, ?_, hr⟩
    cases ag with
    | true =>
      simp only [if_true] at hv'
      obtain ⟨h4, rfl⟩ := hv'
      simp only [Instr.index, asIntOf, Sem.run_bind, Sem.run_pure, Result.andThen_ok, run_underlying hd, hc, and_self, if_true, run_sizeOf' hsz, part, run_isAgg' hag]
      simp
    | false =>
      simp only [Bool.false_eq_true, if_false] at hv'
      rw [List.getElem?_drop] at hv'
      simp only [Nat.add_zero] at hv'
      simp [Instr.index, asIntOf, run_underlying hd, hc, run_sizeOf' hsz, part, run_isAgg' hag, hv']
  · cases h
end

end Go.Proofs.Ytbmgaebhcomjaaa
