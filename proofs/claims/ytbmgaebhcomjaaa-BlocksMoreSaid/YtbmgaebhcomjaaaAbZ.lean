/-
The plain reckoning of a function's whole text stands for its run. No condition.
-/
import Derived.Test.YtbmgaebhcomjaaaAbD
namespace Go.Proofs.Ytbmgaebhcomjaaa
set_option linter.unusedSimpArgs false
set_option linter.unusedVariables false

section
variable {P : Program} {w0 w : World} {I : Ow} {n : Nat} {s s' : S} {env : Nat → V} {st : Nat → Blk} {a : Act} {η : Nat → Value} {C : Orc} {E : EqT}

theorem Rel.undef (h : Rel w0 I n s a w η) {d : Nat} (hd : d < n) : Rel w0 I n ⟨upd s.env d (.s undef), s.st⟩ (a.put (some d) undef) w η :=
  Rel.put (env := s.env) (st := s.st) h (.s _) hd

theorem ops_sound (hC : ∀ g sp, C g = some sp → Impl P g sp) (hE : EqOk P E) (ops : List Oper) {K : S → Prop} {Q : Exit → Act → World → Prop}
    (hK : ∀ s' a' w' η', K s' → Rel w0 I n s' a' w' η' → Q .normal a' w') :
    ∀ (r : List Oper) (k : Nat) (s : S) (a : Act) (w : World) (η : Nat → Value), ops.drop k = r → awpOps P C E n ops K r s → Rel w0 I n s a w η → wpOps P ops.toArray Q (List.range' k r.length) a w
  | [], k, s, a, w, η, _, h, hr => by simpa [wpOps] using hK s a w η h hr
  | o :: r, k, s, a, w, η, hd, h, hr => by
    have hk : ops[k]? = some o := by
      have := congrArg (·[0]?) hd
      simpa using this
    have hd' : ops.drop (k + 1) = r := by
      rw [← List.drop_drop, hd]; rfl
    rw [List.length_cons, List.range'_succ]
    unfold wpOps
    have hk' : ops.toArray[k]? = some o := by simpa using hk
    simp only [hk']
    unfold awpOps at h
    have go : thenS (stepV P C E n o s) (awpOps P C E n ops K r) → o.wp P a w (wpOps P ops.toArray Q (List.range' (k + 1) r.length)) Q := fun h => by
      cases hs : stepV P C E n o s with
      | none => rw [hs] at h; exact h.elim
      | some s' =>
        rw [hs] at h
        exact op_sound hC hE hr hs fun η' a' w' hr' => ops_sound hC hE ops hK r (k + 1) s' a' w' η' hd' h hr'
    have pass : thenS (passV n o s) (awpOps P C E n ops K r) → wpOps P ops.toArray Q (List.range' (k + 1) r.length) (a.put o.dst undef) w := fun h => by
      unfold passV at h
      cases hdst : o.dst with
      | none =>
        rw [hdst] at h
        exact ops_sound hC hE ops hK r (k + 1) s a w η hd' h hr
      | some d =>
        rw [hdst] at h
        simp only at h
        split at h
        · rename_i hdn
          exact ops_sound hC hE ops hK r (k + 1) _ _ w η hd' h (hr.undef hdn)
        · exact h.elim
    unfold wants at h
    unfold Region.wanted
    cases hg : o.guard with
    | none =>
      rw [hg] at h
      simp only [if_true]
      exact .inl (go h)
    | some jb =>
      obtain ⟨j, b⟩ := jb
      rw [hg] at h
      simp only at h
      cases hj : (ops[j]?).bind (·.dst) with
      | none => rw [hj] at h; exact h.elim
      | some t =>
        rw [hj] at h
        simp only at h
        cases he : s.env t <;> (rw [he] at h; try (exact h.elim))
        rename_i v
        cases v <;> try (exact h.elim)
        case tuple arr =>
          have hv := hr.env t
          rw [he] at hv
          have hv' := hv.s_inv
          have hy : yielded ops.toArray a.tmps j = none := by
            unfold yielded
            have : ((ops.toArray[j]?).bind (·.dst)) = some t := by simpa using hj
            rw [this]
            simp only [Option.bind_some]
            rw [Array.getD_eq_getD_getElem?] at hv'
            cases hq : a.tmps[t]? with
            | none => rfl
            | some q => rw [hq] at hv'; simp at hv'; subst hv'; rfl
          simp only [hy]
          cases b <;> simp only [onG_yes, onG_no, br_true, br_false, Bool.not_true, Bool.not_false] at h <;> simp
          all_goals exact pass h
        rename_i c
        have hv := hr.env t
        rw [he] at hv
        have hv' := hv.s_inv
        have hy : yielded ops.toArray a.tmps j = some c := by
          unfold yielded
          have : ((ops.toArray[j]?).bind (·.dst)) = some t := by simpa using hj
          rw [this]
          simp only [Option.bind_some]
          rw [Array.getD_eq_getD_getElem?] at hv'
          cases hq : a.tmps[t]? with
          | none => rw [hq] at hv'; simp [undef] at hv'
          | some q => rw [hq] at hv'; simp at hv'; subst hv'; rfl
        simp only [hy]
        cases b <;> cases c <;> simp only [onG_yes, onG_no, br_true, br_false] at h <;> simp
        · exact .inl (go h)
        · exact pass h
        · exact pass h
        · exact .inl (go h)

def Ex.to : Ex → Exit
  | .normal => .normal
  | .exit id => .exit id
  | .ret => .ret

theorem thenS_mono {x : Option S} {K K' : S → Prop} (hK : ∀ s, K s → K' s) (h : thenS x K) : thenS x K' := by
  cases x with
  | none => exact h.elim
  | some s => exact hK s h
theorem onG_mono {g : Option (Option (Bool × Bool))} {A A' B B' : Prop} (hA : A → A') (hB : B → B') (h : onG g A B) : onG g A' B' := by
  match g, h with
  | some none, h => exact hA h
  | some (some (b, true)), h => exact ⟨fun e => hA (h.1 e), fun e => hB (h.2 e)⟩
  | some (some (b, false)), h => exact ⟨fun e => hB (h.1 e), fun e => hA (h.2 e)⟩
theorem Kseq_mono {K K' : Ex → S → Prop} {y y' : S → Prop} (hK : ∀ e s, K e s → K' e s) (hy : ∀ s, y s → y' s) : ∀ e s, Kseq K y e s → Kseq K' y' e s := fun e s h => by
  cases e with
  | normal => exact hy s h
  | exit id => exact hK _ s h
  | ret => exact hK _ s h
theorem Kblock_mono {K K' : Ex → S → Prop} {id : Nat} (hK : ∀ e s, K e s → K' e s) : ∀ e s, Kblock id K e s → Kblock id K' e s := fun e s h => by
  cases e with
  | normal => exact hK _ s h
  | ret => exact hK _ s h
  | exit i =>
    simp only [Kblock] at h ⊢
    split
    · rename_i hi; rw [if_pos hi] at h; exact hK _ s h
    · rename_i hi; rw [if_neg hi] at h; exact hK _ s h
theorem awpOps_mono {ops : List Oper} {K K' : S → Prop} (hK : ∀ s, K s → K' s) : ∀ (r : List Oper) (s : S), awpOps P C E n ops K r s → awpOps P C E n ops K' r s
  | [], s, h => hK s h
  | o :: r, s, h => onG_mono (thenS_mono (awpOps_mono hK r)) (thenS_mono (awpOps_mono hK r)) h
theorem awpOpsD_mono {B T : List Nat} {ops : List Oper} {K K' : S → Prop} (hK : ∀ s, K s → K' s) : ∀ (r : List Oper) (s : S), awpOpsD P C E n B T ops K r s → awpOpsD P C E n B T ops K' r s
  | [], s, h => hK s h
  | [o], s, h => onG_mono (thenS_mono hK) (thenS_mono hK) h
  | o :: o' :: r, s, h => onG_mono (thenS_mono (awpOpsD_mono hK (o' :: r))) (thenS_mono (awpOpsD_mono hK (o' :: r))) h
/-- who wants less gets it, too -/
theorem awp_mono : ∀ (c : Code) {K K' : Ex → S → Prop} (_ : ∀ e s, K e s → K' e s) (s : S), awp P C E n c K s → awp P C E n c K' s := by
  intro c
  induction c with
  | skip => exact fun hK s h => hK _ s h
  | label l => exact fun hK s h => hK _ s h
  | exit id => exact fun hK s h => hK _ s h
  | ret => exact fun hK s h => hK _ s h
  | region id ops draw =>
    intro K K' hK s h
    cases draw with
    | true =>
      obtain ⟨B, T, hok, h⟩ := h
      exact ⟨B, T, hok, awpOpsD_mono (hK .normal) _ s h⟩
    | false => exact awpOps_mono (hK .normal) _ s h
  | seq x y ihx ihy => exact fun hK s h => ihx (Kseq_mono hK (fun s h => ihy hK s h)) s h
  | cond c x y ihx ihy =>
    intro K K' hK s h
    unfold awp at h ⊢
    cases hb : asB (ev s.env c) with
    | none => rw [hb] at h; exact h.elim
    | some b =>
      rw [hb] at h
      exact ⟨fun e => ihx hK s (h.1 e), fun e => ihy hK s (h.2 e)⟩
  | block id c ih => exact fun hK s h => ih (Kblock_mono hK) s h
  | loop c ih => exact fun hK s h Z hZ => h Z fun s s' hg hs => hZ s s' hg (ih (Kseq_mono hK fun _ h => h) s' hs)
  | rangeFunc f ps as b => exact fun _ s h => h.elim
  | scope b => exact fun _ s h => h.elim
  | goto l => exact fun _ s h => h.elim
  | refuse why => exact fun _ s h => h.elim
/-- a loop is a round, and then the loop -/
theorem loop_round {c : Code} {K : Ex → S → Prop} {s : S} (h : awp P C E n c (Kseq K (awp P C E n (.loop c) K)) s) : awp P C E n (.loop c) K s :=
  fun Z hZ => hZ s s (Gh.refl s) (awp_mono c (Kseq_mono (fun _ _ h => h) fun s' h' => h' Z hZ) s h)
/-- .. and at each round's beginning what stands in memory may be seen in another form -/
theorem loop_invG {c : Code} {K : Ex → S → Prop} (J : S → Prop) (μ : S → Nat) (h : ∀ s, J s → ∃ s', Gh s s' ∧ awp P C E n c (Kseq K (fun s'' => J s'' ∧ μ s'' < μ s)) s') {s : S} (h0 : J s) : awp P C E n (.loop c) K s := by
  intro Z hZ
  have key : ∀ m s, μ s = m → J s → Z s := by
    intro m
    induction m using Nat.strongRecOn with
    | _ m ih =>
      intro s hm hs
      obtain ⟨s', hg, hs'⟩ := h s hs
      exact hZ s s' hg (awp_mono c (Kseq_mono (fun _ _ h => h) fun s'' ⟨h1, h2⟩ => ih (μ s'') (hm ▸ h2) s'' rfl h1) s' hs')
  exact key _ s rfl h0
theorem loop_inv {c : Code} {K : Ex → S → Prop} (J : S → Prop) (μ : S → Nat) (h : ∀ s, J s → awp P C E n c (Kseq K (fun s' => J s' ∧ μ s' < μ s)) s) {s : S} (h0 : J s) : awp P C E n (.loop c) K s :=
  loop_invG J μ (fun s hs => ⟨s, Gh.refl s, h s hs⟩) h0

theorem awp_sound (hm : P.follows .mixedOrders = true) (hC : ∀ g sp, C g = some sp → Impl P g sp) (hE : EqOk P E) : ∀ (c : Code) (K : Ex → S → Prop) (Q : Exit → Act → World → Prop) (s : S) (a : Act) (w : World) (η : Nat → Value),
    awp P C E n c K s → Rel w0 I n s a w η → (∀ e s' a' w' η', K e s' → Rel w0 I n s' a' w' η' → Q e.to a' w') → c.wp P Q a w := by
  intro c
  induction c with
  | skip => exact fun K Q s a w η h hr hK => wp_skip (hK .normal s a w η h hr)
  | label l => exact fun K Q s a w η h hr hK => wp_label (hK .normal s a w η h hr)
  | exit id => exact fun K Q s a w η h hr hK => wp_exit (hK (.exit id) s a w η h hr)
  | ret => exact fun K Q s a w η h hr hK => wp_ret (hK .ret s a w η h hr)
  | region id ops draw =>
    intro K Q s a w η h hr hK
    cases draw with
    | true =>
      obtain ⟨B, T, hok, h⟩ := h
      exact region_sound hm hC hE hok (fun s' a' w' η' hk hr' => hK .normal s' a' w' η' hk hr') h hr
    | false =>
    refine wp_region ?_
    have := ops_sound hC hE ops.toList (K := K .normal) (Q := Q) (fun s' a' w' η' hk hr' => hK .normal s' a' w' η' hk hr') ops.toList 0 s a w η rfl h hr
    simpa [List.range_eq_range'] using this
  | seq x y ihx ihy =>
    intro K Q s a w η h hr hK
    refine wp_seq (ihx (Kseq K (awp P C E n y K)) _ s a w η h hr fun e s' a' w' η' hk hr' => ?_)
    cases e with
    | normal => exact ihy K Q s' a' w' η' hk hr' hK
    | exit id => exact hK (.exit id) s' a' w' η' hk hr'
    | ret => exact hK .ret s' a' w' η' hk hr'
  | cond c x y ihx ihy =>
    intro K Q s a w η h hr hK
    unfold awp at h
    cases hb : asB (ev s.env c) with
    | none => rw [hb] at h; exact h.elim
    | some b =>
      rw [hb] at h
      have hv := hr.eval c
      unfold asB at hb
      split at hb
      · rename_i b' he
        simp only [Option.some.injEq] at hb
        subst hb
        rw [he] at hv
        refine wp_cond hv.s_inv ?_
        cases b' with
        | true => exact ihx K Q s a w η (by simpa using h) hr hK
        | false => exact ihy K Q s a w η (by simpa using h) hr hK
      · cases hb
  | block id c ih =>
    intro K Q s a w η h hr hK
    refine wp_block (ih (Kblock id K) _ s a w η h hr fun e s' a' w' η' hk hr' => ?_)
    cases e with
    | normal => exact hK .normal s' a' w' η' hk hr'
    | ret => exact hK .ret s' a' w' η' hk hr'
    | exit i =>
      simp only [Kblock] at hk
      simp only [Ex.to, Exit.inBlock]
      split
      · rename_i hi
        rw [if_pos hi] at hk
        exact hK .normal s' a' w' η' hk hr'
      · rename_i hi
        rw [if_neg hi] at hk
        exact hK (.exit i) s' a' w' η' hk hr'
  | loop c ih =>
    intro K Q s a w η h hr hK
    intro b k cs
    have key := h (fun s => ∀ a w η, Rel w0 I n s a w η → ∃ e a' w', Q e a' w' ∧ Arrives P (lone (b.at a (.code c :: .inLoop c :: k)) cs w) b k cs e a' w') (fun s s' hg hs a w η hr => by
      have hr := hg w0 I n a w η hr
      have hw := ih _ (fun e a' w' => match e with
        | .normal => ∃ s' η', (∀ a w η, Rel w0 I n s' a w η → ∃ e a' w', Q e a' w' ∧ Arrives P (lone (b.at a (.code c :: .inLoop c :: k)) cs w) b k cs e a' w') ∧ Rel w0 I n s' a' w' η'
        | e => Q e a' w') s' a w η hs hr (fun e s' a' w' η' hk hr' => by
          cases e with
          | normal => exact ⟨s', η', hk, hr'⟩
          | exit id => exact hK (.exit id) s' a' w' η' hk hr'
          | ret => exact hK .ret s' a' w' η' hk hr')
      obtain ⟨e, a₁, w₁, hq, harr⟩ := hw b (.inLoop c :: k) cs
      cases e with
      | normal =>
        obtain ⟨s', η', hI₁, hr₁⟩ := hq
        obtain ⟨e₂, a₂, w₂, hq₂, harr₂⟩ := hI₁ a₁ w₁ η' hr₁
        exact ⟨e₂, a₂, w₂, hq₂, .of_steps (Steps.trans harr (.one step_inLoop)) harr₂⟩
      | exit id => exact ⟨_, a₁, w₁, hq, .pass (x := .inLoop c) rfl (fun _ _ => .inl (by simp)) harr⟩
      | goto l => exact ⟨_, a₁, w₁, hq, .pass (x := .inLoop c) rfl (fun _ _ => .inl (by simp)) harr⟩
      | ret => exact ⟨_, a₁, w₁, hq, .pass (x := .inLoop c) rfl (fun _ _ => .inl (by simp)) harr⟩
      | panic ch => exact ⟨_, a₁, w₁, hq, .pass (x := .inLoop c) rfl (fun _ _ => .inl (by simp)) harr⟩
      | outgrown => exact ⟨_, a₁, w₁, hq, .pass (x := .inLoop c) rfl (fun _ _ => .inl (by simp)) harr⟩)
    obtain ⟨e, a', w', hq, harr⟩ := key a w η hr
    exact ⟨e, a', w', hq, .of_steps (.one step_loop) harr⟩
  | rangeFunc f ps as b => exact fun K Q s a w η h => h.elim
  | scope b => exact fun K Q s a w η h => h.elim
  | goto l => exact fun K Q s a w η h => h.elim
  | refuse why => exact fun K Q s a w η h => h.elim

theorem own_lst (h : Rel w0 I n s a w η) {x : V} {u : Value} (hu : RV (cx w0 I s.st w η) u x) {b ver sz e : Nat} {l : List V} (hx : ownRow s.st x = some (b, ver, sz, e, l)) : RC w (fun _ => False) (Fresh w0 I.i) true u (.lst true sz l) := by
  obtain ⟨_, ⟨l0, hc0⟩, hblk, hrow⟩ := own_sound h hu hx
  obtain ⟨A, cp, us, rfl, h1, h2, h3, h4, h5⟩ := hrow.elems
  have h3' := h3.imp fun u x hr => hr.refresh (own' := fun _ => False) (fresh' := Fresh w0 I.i) rfl fun g _ hf => ⟨fun h => h, hf⟩
  refine .lst _ true sz l A cp us h1 h2 h3'.1 h3'.2 h4 ?_
  rcases h5 with h5 | ⟨g, o, rfl, h7⟩
  · exact .inl h5
  · exact .inr ⟨g, o, rfl, fun h => h, fun _ => h.old b g (by rw [hc0]; rfl) (hblk.symm.trans rfl), h7⟩

theorem resV_sound (h : Rel w0 I n s a w η) : ∀ (k : Nat) (x y : V) (u : Value), resV s.st k x = some y → RV (cx w0 I s.st w η) u x → RC w (fun _ => False) (Fresh w0 I.i) true u y
  | 0, x, y, u, hx, _ => by simp [resV] at hx
  | k + 1, x, y, u, hx, hu => by
    cases x <;> simp only [resV, reduceCtorEq] at hx
    case s v =>
      simp only [Option.some.injEq] at hx
      subst hx
      rw [hu.s_inv]; exact .s _ _
    case agg l =>
      obtain ⟨l', hl', rfl⟩ := Option.map_eq_some_iff.1 hx
      obtain ⟨us, rfl, hp⟩ := hu.agg_inv
      exact rc_agg _ _ (mapM_PW hl' hp fun u x y _ hr hf => resV_sound h k x y u hf hr)
    case tup l =>
      obtain ⟨l', hl', rfl⟩ := Option.map_eq_some_iff.1 hx
      obtain ⟨us, rfl, hp⟩ := hu.tup_inv
      have := mapM_PW (R' := RC w (fun _ => False) (Fresh w0 I.i) true) hl' hp fun u x y _ hr hf => resV_sound h k x y u hf hr
      exact .tup _ us l' this.1 this.2
    case lst fr sz l =>
      split at hx
      case isFalse => cases hx
      rename_i hfr
      simp only [Option.some.injEq] at hx
      subst hx
      subst hfr
      exact hu.lst_inv.refresh rfl fun g _ hf => ⟨fun h => h, hf⟩
    case sw b ver len =>
      obtain ⟨⟨sz, e, l⟩, hb, rfl⟩ := Option.map_eq_some_iff.1 hx
      exact own_lst h hu (b := b) (ver := ver) (sz := sz) (e := e) (l := l) (by simp [ownRow, hb])
    case sp b ver sz off len =>
      obtain ⟨⟨sz', e, l⟩, hb, hx2⟩ := Option.bind_eq_some_iff.1 hx
      simp only at hx2
      split at hx2
      case isFalse => cases hx2
      rename_i hc
      simp only [Option.some.injEq] at hx2
      subst hx2
      have := own_lst h hu (b := b) (ver := ver) (sz := sz') (e := e) (l := (l.drop off).take len) (by simp [ownRow, hb, hc])
      rw [hc.1] at this
      exact this

theorem resT_sound (h : Rel w0 I n s a w η) {x y : V} {u : Value} (hx : resT s.st x = some y) (hu : RV (cx w0 I s.st w η) u x) : ResR w0 I.i w u y ∧ ∀ t r out, y ≠ .io t r out := by
  unfold resT at hx
  split at hx
  · rename_i b ver len
    obtain ⟨⟨sz, e, l⟩, hb, rfl⟩ := Option.map_eq_some_iff.1 hx
    obtain ⟨hver, hcont, hl, us, ho, h2, h3, h4⟩ := look_row h hb
    have e1 := hu.sw_inv.2.2 _ hl
    subst e1
    have hlive : (s.st b).c.live = true := by rw [hcont]; rfl
    exact ⟨⟨⟨us, ho, h2, h3.imp fun u x hr => hr.mono fun g hg _ => ⟨rfl, fun hb' => hg ⟨b, hlive, hb'⟩⟩, h4⟩, fun g hg => h.old b g hlive hg⟩, fun _ _ _ h => (by cases h)⟩
  · rename_i b ver
    obtain ⟨cs, hb, h2⟩ := Option.bind_eq_some_iff.1 hx
    obtain ⟨⟨cs', bs⟩, hc, h3⟩ := Option.bind_eq_some_iff.1 h2
    simp only at h3
    split at h3
    case isFalse => cases h3
    rename_i hn
    simp only [Option.some.injEq] at h3
    subst h3
    exact ⟨(box_sound h hu hb hc hn (D := Fresh w0 I.i) fun q _ g hl hg => h.old q g hl hg).1, fun _ _ _ h => (by cases h)⟩
  · have := resV_sound h 4 x y u hx hu
    cases y <;> first | (exfalso; cases this; done) | exact ⟨this, fun _ _ _ h => (by cases h)⟩

theorem scalT_RC {x : V} {u : Value} {c : Cx} {own fresh : Nat → Prop} {k : Bool} (hx : x.scalT = true) (hu : RV c u x) : RC w own fresh k u x := by
  cases x <;> simp only [V.scalT, reduceCtorEq, Bool.false_eq_true] at hx
  case s v => rw [hu.s_inv]; exact .s _ _
  case agg l =>
    obtain ⟨us, rfl, hp⟩ := hu.agg_inv
    refine .agg _ us l hp.1 fun i u y hu hy => ?_
    have := List.all_eq_true.1 hx y (List.mem_of_getElem? hy)
    have hr := hp.2 i u y hu hy
    split at this
    · rw [hr.s_inv]; exact .s _ _
    · cases this
  case tup l =>
    obtain ⟨us, rfl, hp⟩ := hu.tup_inv
    refine .tup _ us l hp.1 fun i u y hu hy => ?_
    have := List.all_eq_true.1 hx y (List.mem_of_getElem? hy)
    have hr := hp.2 i u y hu hy
    split at this
    · rw [hr.s_inv]; exact .s _ _
    · cases this

end

theorem mapM_cons' {α β : Type} (f : α → Option β) (x : α) (l : List α) : (x :: l).mapM f = (f x).bind fun y => (l.mapM f).bind fun ys => some (y :: ys) := by
  simp [List.mapM_cons]

/-- the argument is handed over -/
def ownAt (xs : List V) (t : Nat) : Bool := match xs[t]? with
  | some x => x.isOwn
  | none => false
def resX (P : Program) (fn : Func) (xs : List V) (s : S) (r : V) : Prop := match r with
  | .io t r out => ownAt xs t = true ∧ ioOf P fn s t = some (.io t r out)
  | r => resOf P fn s = some r
def Fin (P : Program) (fn : Func) (xs : List V) (r : V) (e : Ex) (s : S) : Prop := (e = .normal ∨ e = .ret) ∧ resX P fn xs s r
theorem res_noio {P : Program} {fn : Func} {xs : List V} {s : S} {r : V} (h : resOf P fn s = some r) : resX P fn xs s r := by
  cases r <;> try exact h
  exfalso
  unfold resOf at h
  obtain ⟨vs, _, h2⟩ := Option.bind_eq_some_iff.1 h
  unfold resT at h2
  split at h2
  · obtain ⟨⟨_, _, _⟩, _, h3⟩ := Option.map_eq_some_iff.1 h2
    cases h3
  · obtain ⟨_, _, h3⟩ := Option.bind_eq_some_iff.1 h2
    obtain ⟨⟨_, _⟩, _, h4⟩ := Option.bind_eq_some_iff.1 h3
    simp only at h4
    split at h4 <;> simp at h4
  · cases hx : one vs <;> rw [hx] at h2 <;> simp only [resV, reduceCtorEq, Option.some.injEq] at h2
    case agg => obtain ⟨_, _, h⟩ := Option.map_eq_some_iff.1 h2; cases h
    case tup => obtain ⟨_, _, h⟩ := Option.map_eq_some_iff.1 h2; cases h
    case lst => split at h2 <;> simp at h2
    case sw => obtain ⟨⟨_, _, _⟩, _, h⟩ := Option.map_eq_some_iff.1 h2; cases h
    case sp =>
      obtain ⟨⟨_, _, _⟩, _, h⟩ := Option.bind_eq_some_iff.1 h2
      simp only at h
      split at h <;> simp at h
theorem fin_ret {P : Program} {fn : Func} {xs : List V} {r : V} {s : S} (h : resOf P fn s = some r) : Fin P fn xs r .ret s := ⟨.inr rfl, res_noio h⟩
theorem fin_normal {P : Program} {fn : Func} {xs : List V} {r : V} {s : S} (h : resOf P fn s = some r) : Fin P fn xs r .normal s := ⟨.inl rfl, res_noio h⟩
theorem fin_io {P : Program} {fn : Func} {xs : List V} {t : Nat} {r out : V} {e : Ex} {s : S} (he : e = .normal ∨ e = .ret) (ho : ownAt xs t = true) (h : ioOf P fn s t = some (.io t r out)) : Fin P fn xs (.io t r out) e s := ⟨he, ho, h⟩

theorem inC_get (t : Nat) : ∀ (cs : List V) (j i : Nat), (inC t j cs)[i]? = (cs[i]?).map fun c => match c with
    | .own _ _ l => .sw (nest t (j + i)) 1 l.length
    | c => c
  | [], j, i => by simp [inC]
  | c :: r, j, i => by
    cases i with
    | zero => cases c <;> simp [inC]
    | succ i =>
      have e : j + 1 + i = j + (i + 1) := by omega
      simp only [inC, List.getElem?_cons_succ]
      rw [inC_get t r (j + 1) i, e]
theorem inC_len (t : Nat) : ∀ (cs : List V) (j : Nat), (inC t j cs).length = cs.length
  | [], j => by simp [inC]
  | c :: r, j => by simp [inC, inC_len t r (j + 1)]

/-- what the reckoning shows of every answer holds of the call -/
theorem impl_of {P : Program} {C : Orc} {E : EqT} (hm : P.follows .mixedOrders = true) (hC : ∀ g sp, C g = some sp → Impl P g sp) (hE : EqOk P E) {f : Nat} {fn : Func} {c : Code} {sp : Spec} (hf : P.funcs[f]? = some fn) (hb : fn.body = some c)
    (hname : (fn.name == "runtime.NumGoroutine") = false)
    (h : ∀ xs r, sp.fn xs = some r → xs.length ≤ fn.ntmps ∧ awp P C E fn.ntmps c (Fin P fn xs r) (init xs)) : Impl P f sp := by
  refine ⟨⟨fn, hf, hname, by rw [hb]; rfl⟩, fun xs r hr vs w J hargs => ?_⟩
  obtain ⟨hlen, hawp⟩ := h xs r hr
  have hvl : vs.toList.length = xs.length := hargs.pw.1
  have hvs : vs.size = xs.length := by simpa using hvl
  refine calls_of_wp hf hb ?_
  have hgetv : ∀ (t : Nat) u, vs.toList[t]? = some u → vs[t]? = some u := fun t u hu => by simpa using hu
  -- the values of the blocks
  let η : Nat → Value := fun q => if q < 1000 then vs.getD q undef else (match vs[q / 1000 - 1]? with
    | some (.pointer (some a)) => (w.cell? ⟨a.block, a.off + q % 1000, a.spot⟩).getD undef
    | _ => undef)
  have hη1 : ∀ t u, t < 1000 → vs[t]? = some u → η t = u := fun t u ht hu => by
    simp only [η, if_pos ht]
    rw [Array.getD_eq_getD_getElem?, hu]; rfl
  have hdiv : ∀ t j, j < 1000 → nest t j / 1000 - 1 = t ∧ nest t j % 1000 = j ∧ ¬ nest t j < 1000 := fun t j hj => by unfold nest; omega
  have hη2 : ∀ t j g o cs (cur : Array Value) e us u, j < 1000 → vs[t]? = some (.pointer (some ⟨g, o, none⟩)) → w.heap[g]? = some (.cells cur e (0, 0)) → us = (cur.toList.drop o).take cs → us[j]? = some u → η (nest t j) = u := fun t j g o cs cur e us u hj hu hg hus huj => by
    obtain ⟨h1, h2, h3⟩ := hdiv t j hj
    simp only [η, if_neg h3, h1, h2, hu]
    subst hus
    rw [List.getElem?_take] at huj
    split at huj
    · rw [List.getElem?_drop] at huj
      have : cur[o + j]? = some u := by simpa using huj
      simp [World.cell?, hg, this]
    · cases huj
  -- what is live
  have hst : ∀ q, ((init xs).st q).c.live = true →
      (q < 1000 ∧ ∃ sz e l, xs[q]? = some (.own sz e l) ∧ (init xs).st q = ⟨1, .row sz e l⟩) ∨
      (q < 1000 ∧ ∃ cs, xs[q]? = some (.obx cs) ∧ (init xs).st q = ⟨1, .box (inC q 0 cs)⟩) ∨
      (∃ t j cs sz e l, q = nest t j ∧ j < 1000 ∧ xs[t]? = some (.obx cs) ∧ cs[j]? = some (.own sz e l) ∧ (init xs).st q = ⟨1, .row sz e l⟩) := fun q hq => by
    simp only [init] at hq ⊢
    split at hq
    · rename_i h1
      simp only [h1, if_true]
      split at hq
      · rename_i sz e l hx
        exact .inl ⟨trivial, sz, e, l, hx, rfl⟩
      · rename_i cs hx
        exact .inr (.inl ⟨trivial, cs, hx, rfl⟩)
      · cases hq
    · rename_i h1
      simp only [h1, if_false]
      split at hq
      · rename_i cs hx
        split at hq
        · rename_i sz e l hc
          refine .inr (.inr ⟨q / 1000 - 1, q % 1000, cs, sz, e, l, by unfold nest; omega, by omega, hx, hc, rfl⟩)
        · cases hq
      · cases hq
  -- one of the arguments alone is the function's own
  have hblkq : ∀ q g, ((init xs).st q).c.live = true → blkOf (η q) = some g → J g := fun q g hq hg => by
    rcases hst q hq with ⟨h1, sz, e, l, hx, _⟩ | ⟨h1, cs, hx, _⟩ | ⟨t, j, cs, sz, e, l, rfl, hj, hx, hc, _⟩
    · obtain ⟨u, hu, hr⟩ := hargs.pw.get hx
      rw [hη1 q u h1 (hgetv q u hu)] at hg
      exact hr.2 g hg
    · obtain ⟨u, hu, hr⟩ := hargs.pw.get hx
      rw [hη1 q u h1 (hgetv q u hu)] at hg
      obtain ⟨g0, o, cur, e, us, rfl, hg0, hJ, _⟩ := hr
      simp [blkOf] at hg
      subst hg
      exact hJ
    · obtain ⟨u, hu, hr⟩ := hargs.pw.get hx
      obtain ⟨g0, o, cur, e0, us, rfl, hg0, hJ, hus, hpw, hnest, _⟩ := hr
      obtain ⟨u', hu', _⟩ := hpw.get hc
      rw [hη2 t j g0 o cs.length cur e0 us u' hj (hgetv t _ hu) hg0 hus hu'] at hg
      exact (hnest j u' sz e l g hu' hc hg).1
  let I : Ow := ⟨J, fun t => if t < 1000 then (match xs[t]? with
    | some (.own _ _ _) => vs[t]?
    | some (.obx _) => vs[t]?
    | _ => none) else none⟩
  have hrel : Rel w I fn.ntmps (init xs) { tmps := vs ++ Array.replicate (fn.ntmps - vs.size) undef, defers := [] } w η := by
    have hown : ∀ g, (cx w I (init xs).st w η).own g → J g := fun g ⟨b, hb, hg⟩ => hblkq b g hb hg
    refine ⟨by simp; omega, rfl, fun t => ?_, fun b hb => ?_, fun b b' g hb hb' hg hg' => ?_, fun b g hb hg => .inr (hblkq b g hb hg), ⟨rfl, rfl, rfl, Nat.le_refl _, fun _ _ _ => rfl⟩, fun b v hbv => ?_⟩
    · have hget : ∀ u, vs[t]? = some u → (vs ++ Array.replicate (fn.ntmps - vs.size) undef).getD t undef = u := fun u hu => by
        have hlt := (Array.getElem?_eq_some_iff.1 hu).1
        rw [Array.getD_eq_getD_getElem?, Array.getElem?_append_left hlt, hu]; rfl
      cases hx : xs[t]? with
      | none =>
        have hge : vs.size ≤ t := by
          rw [hvs]
          rcases Nat.lt_or_ge t xs.length with h' | h'
          · rw [List.getElem?_eq_getElem h'] at hx; cases hx
          · exact h'
        have : (vs ++ Array.replicate (fn.ntmps - vs.size) undef).getD t undef = undef := by
          rw [Array.getD_eq_getD_getElem?, Array.getElem?_append_right hge, Array.getElem?_replicate]
          split <;> rfl
        simp only [init, hx]
        rw [this]; exact .s _
      | some x =>
        obtain ⟨u, hu, hr⟩ := hargs.pw.get hx
        have hu' := hgetv t u hu
        rw [hget u hu']
        have hlook : ∀ ver v0, t < 1000 → (cx w I (init xs).st w η).look t ver = some v0 → v0 = u := fun ver v0 ht hv0 => by
          simp only [cx] at hv0
          split at hv0
          · simp only [Option.some.injEq] at hv0
            rw [← hv0]; exact hη1 t u ht hu'
          · cases hv0
        cases hxo : x.isOwn with
        | false =>
          have hrc : RC w J (Fresh w J) false u x := by
            cases x <;> first | exact hr | (simp [V.isOwn] at hxo)
          have := hrc.mono (w' := w) (own' := (cx w I (init xs).st w η).own) fun g hg _ => ⟨rfl, fun h => hg (hown g h)⟩
          have he : (init xs).env t = x.unfr := by
            simp only [init, hx]
            cases x <;> first | rfl | (simp [V.isOwn] at hxo)
          rw [he]
          exact RC.rvu (c := cx w I (init xs).st w η) this
        | true =>
          cases x <;> simp only [V.isOwn, reduceCtorEq, Bool.false_eq_true] at hxo
          case own sz e l =>
            simp only [init, hx]
            obtain ⟨⟨us, ho, _⟩, _⟩ := hr
            refine .sw t 1 _ u ?_ ?_ fun v0 hv0 => ?_
            · rcases ho.val with ⟨h', h0⟩ | ⟨g', o', cap', h', _⟩
              · exact ⟨none, 0, by rw [h', h0]⟩
              · exact ⟨_, _, h'⟩
            · by_cases ht : t < 1000
              · simp [cx, init, hx, ht]
              · exact absurd (hargs.small t _ hx rfl).1 ht
            · by_cases ht : t < 1000
              · exact (hlook 1 v0 ht hv0).symm
              · exact absurd (hargs.small t _ hx rfl).1 ht
          case obx cs =>
            simp only [init, hx]
            obtain ⟨g0, o, cur, e, us, rfl, hg0, hJ, _⟩ := hr
            refine .ptr t 1 0 _ ⟨_, rfl⟩ ?_ fun v0 hv0 => ?_
            · by_cases ht : t < 1000
              · simp [cx, init, hx, ht]
              · exact absurd (hargs.small t _ hx rfl).1 ht
            · by_cases ht : t < 1000
              · exact ⟨g0, o, hlook 1 v0 ht hv0, rfl⟩
              · exact absurd (hargs.small t _ hx rfl).1 ht
    · rcases hst b hb with ⟨h1, sz, e, l, hx, hb'⟩ | ⟨h1, cs, hx, hb'⟩ | ⟨t, j, cs, sz, e, l, rfl, hj, hx, hc, hb'⟩
      · obtain ⟨u, hu, hr⟩ := hargs.pw.get hx
        rw [hb', hη1 b u h1 (hgetv b u hu)]
        obtain ⟨⟨us, ho, h2, h3, h4⟩, _⟩ := hr
        exact ⟨us, ho, h2, h3.imp fun u x hx => hx.mono fun g hg _ => ⟨rfl, fun h => hg (hown g h)⟩, h4⟩
      · obtain ⟨u, hu, hr⟩ := hargs.pw.get hx
        rw [hb', hη1 b u h1 (hgetv b u hu)]
        obtain ⟨g0, o, cur, e, us, rfl, hg0, hJ, hus, hpw, hnest, _⟩ := hr
        refine ⟨g0, o, cur, e, rfl, hg0, ?_⟩
        rw [inC_len, ← hus]
        refine ⟨by rw [inC_len]; exact hpw.1, fun i u' x hu' hx' => ?_⟩
        rw [inC_get] at hx'
        obtain ⟨c, hc, rfl⟩ := Option.map_eq_some_iff.1 hx'
        have hr := hpw.2 i u' c hu' hc
        cases c <;> simp only [CellR] at hr
        case s v => subst hr; exact .s _
        case own sz e' l =>
          obtain ⟨hsc, us1, ho, _⟩ := hr
          simp only [Nat.zero_add]
          have hi : i < 1000 := by
            have := (hargs.small b _ hx rfl).2 cs rfl
            have := (List.getElem?_eq_some_iff.1 hc).1
            omega
          obtain ⟨d1, d2, d3⟩ := hdiv b i hi
          have hsti : (init xs).st (nest b i) = ⟨1, .row sz e' l⟩ := by
            simp only [init, d3, if_false, d1, d2, hx, hc]
          refine .sw _ _ _ _ ?_ ?_ fun v0 hv0 => ?_
          · rcases ho.val with ⟨h', h0⟩ | ⟨g', o', cap', h', _⟩
            · exact ⟨none, 0, by rw [h', h0]⟩
            · exact ⟨_, _, h'⟩
          · simp only [cx]
            rw [hsti]
            exact Nat.le_refl _
          · simp only [cx] at hv0
            rw [hsti] at hv0
            simp [Cont.live] at hv0
            rw [hη2 b i g0 o cs.length cur e us u' hi (hgetv b _ hu) hg0 hus hu'] at hv0
            exact hv0
      · obtain ⟨u, hu, hr⟩ := hargs.pw.get hx
        obtain ⟨g0, o, cur, e0, us, rfl, hg0, hJ, hus, hpw, hnest, _⟩ := hr
        obtain ⟨u', hu', hr'⟩ := hpw.get hc
        rw [hb', hη2 t j g0 o cs.length cur e0 us u' hj (hgetv t _ hu) hg0 hus hu']
        obtain ⟨hsc, hrow⟩ := hr'
        exact hrow.scal hsc fun _ _ => rfl
    · -- blocks lie apart
      have own1 : ∀ (i j : Nat) (x y : V), xs[i]? = some x → xs[j]? = some y → x.isOwn = true → y.isOwn = true → i = j := hargs.one
      rcases hst b hb with ⟨h1, sz, e, l, hx, _⟩ | ⟨h1, cs, hx, _⟩ | ⟨t, j, cs, sz, e, l, rfl, hj, hx, hc, _⟩
      · rcases hst b' hb' with ⟨h1', sz', e', l', hx', _⟩ | ⟨h1', cs', hx', _⟩ | ⟨t', j', cs', sz', e', l', rfl, hj', hx', hc', _⟩
        · exact own1 b b' _ _ hx hx' rfl rfl
        · exact own1 b b' _ _ hx hx' rfl rfl
        · have := own1 b t' _ _ hx hx' rfl rfl
          subst this
          rw [hx] at hx'; cases hx'
      · rcases hst b' hb' with ⟨h1', sz', e', l', hx', _⟩ | ⟨h1', cs', hx', _⟩ | ⟨t', j', cs', sz', e', l', rfl, hj', hx', hc', _⟩
        · exact own1 b b' _ _ hx hx' rfl rfl
        · exact own1 b b' _ _ hx hx' rfl rfl
        · have := own1 b t' _ _ hx hx' rfl rfl
          subst this
          rw [hx] at hx'
          cases hx'
          obtain ⟨u, hu, hr⟩ := hargs.pw.get hx
          rw [hη1 b u h1 (hgetv b u hu)] at hg
          obtain ⟨g0, o, cur, e0, us, rfl, hg0, hJ, hus, hpw, hnest, _⟩ := hr
          obtain ⟨u', hu', _⟩ := hpw.get hc'
          rw [hη2 b j' g0 o cs.length cur e0 us u' hj' (hgetv b _ hu) hg0 hus hu'] at hg'
          simp [blkOf] at hg
          exact absurd hg.symm (hnest j' u' sz' e' l' g hu' hc' hg').2
      · obtain ⟨u, hu, hr⟩ := hargs.pw.get hx
        obtain ⟨g0, o, cur, e0, us, rfl, hg0, hJ, hus, hpw, hnest, hsp⟩ := hr
        obtain ⟨u', hu', _⟩ := hpw.get hc
        rw [hη2 t j g0 o cs.length cur e0 us u' hj (hgetv t _ hu) hg0 hus hu'] at hg
        rcases hst b' hb' with ⟨h1', sz', e', l', hx', _⟩ | ⟨h1', cs', hx', _⟩ | ⟨t', j', cs', sz', e', l', rfl, hj', hx', hc', _⟩
        · have := own1 t b' _ _ hx hx' rfl rfl
          subst this
          rw [hx] at hx'; cases hx'
        · have := own1 t b' _ _ hx hx' rfl rfl
          subst this
          rw [hη1 t _ h1' (hgetv t _ hu)] at hg'
          simp [blkOf] at hg'
          exact absurd hg'.symm (hnest j u' sz e l g hu' hc hg).2
        · have := own1 t t' _ _ hx hx' rfl rfl
          subst this
          rw [hx] at hx'
          cases hx'
          obtain ⟨u2, hu2, _⟩ := hpw.get hc'
          rw [hη2 t j' g0 o cs.length cur e0 us u2 hj' (hgetv t _ hu) hg0 hus hu2] at hg'
          rw [hsp j j' u' u2 sz e l sz' e' l' g hu' hu2 hc hc' hg hg']
    · simp only [I] at hbv
      split at hbv
      case isFalse => cases hbv
      rename_i ht
      split at hbv
      · rename_i sz e l hx
        exact ⟨by simp [init, hx, ht], fun _ _ => hη1 b v ht hbv⟩
      · rename_i cs hx
        exact ⟨by simp [init, hx, ht], fun _ _ => hη1 b v ht hbv⟩
      · cases hbv
  refine awp_sound hm hC hE c _ _ (init xs) _ w _ hawp hrel fun e s' a' w' η' hk hr' => ?_
  obtain ⟨he, hres⟩ := hk
  have hfin : a'.defers = [] ∧ ∃ v, (results fn a'.tmps).run P w' = .ok v w' ∧ (∃ v', Ending.returned v = .returned v' ∧ Fr w J w' ∧ PostR w J w' vs v' r) := by
    refine ⟨hr'.defers, ?_⟩
    have key : ∀ (rs : List ResultVar) (ys : List V), (rs.mapM (m := Option) fun r => match r with
        | .tmp t => if t < fn.ntmps then some (s'.env t) else none
        | .cell a t => if a < fn.ntmps then loadV P s'.st t (s'.env a) else none) = some ys →
        ∃ us, (rs.mapM (m := Sem) fun
          | .tmp t => pure (a'.tmps.getD t undef)
          | .cell a t => do loadVar t (← asAddr (a'.tmps.getD a undef))).run P w' = .ok us w' ∧ PW (RV (cx w I s'.st w' η')) us ys := by
      intro rs
      induction rs with
      | nil => intro ys h; simp at h; subst h; exact ⟨[], by simp, PW.nil⟩
      | cons q rs ih =>
        intro ys h
        rw [mapM_cons'] at h
        obtain ⟨y, hy, h2⟩ := Option.bind_eq_some_iff.1 h
        obtain ⟨ys', hys', h3⟩ := Option.bind_eq_some_iff.1 h2
        simp only [Option.some.injEq] at h3
        subst h3
        obtain ⟨us, hus, hp⟩ := ih ys' hys'
        cases q with
        | tmp t =>
          simp only at hy
          split at hy
          case isFalse => cases hy
          simp only [Option.some.injEq] at hy
          subst hy
          exact ⟨_ :: us, by simp only [List.mapM_cons, Sem.run_bind, Sem.run_pure, Result.andThen_ok, hus], PW.cons (hr'.env t) hp⟩
        | cell t ty =>
          simp only at hy
          split at hy
          case isFalse => cases hy
          obtain ⟨u, hu, hv⟩ := load_sound hr' hy (hr'.env t)
          have hu2 : (do loadVar ty (← asAddr (a'.tmps.getD t undef)) : Sem Value).run P w' = .ok u w' := by
            unfold Instr.loadAt at hu
            generalize a'.tmps.getD t undef = q at hu ⊢
            cases q with
            | pointer p => cases p with
              | none => simp [Instr.sureAddr, stuck] at hu
              | some p => simpa [Instr.sureAddr, asAddr] using hu
            | _ => simp [Instr.sureAddr, stuck] at hu
          refine ⟨u :: us, ?_, PW.cons hv hp⟩
          rw [List.mapM_cons]
          simp only [Sem.run_bind] at hu2 ⊢
          rw [hu2]
          simp only [Result.andThen_ok, Sem.run_bind, hus, Sem.run_pure]
    have key2 : ∀ vs', resL P fn s' = some vs' → ∃ u, (results fn a'.tmps).run P w' = .ok u w' ∧ RV (cx w I s'.st w' η') u (one vs') := fun vs' hvs' => by
      obtain ⟨us, hus, hp⟩ := key fn.results.toList vs' hvs'
      have hrun : (fn.results.mapM (m := Sem) fun
            | .tmp t => pure (a'.tmps.getD t undef)
            | .cell a t => do loadVar t (← asAddr (a'.tmps.getD a undef))).run P w' = .ok us.toArray w' := by
        rw [Array.mapM_eq_mapM_toList]
        simp only [Sem.run_map, hus, Result.andThen_ok]
      have hres3 : (results fn a'.tmps).run P w' = .ok (if h : us.toArray.size = 1 then us.toArray[0] else .tuple us.toArray) w' := by
        unfold results
        simp only [Sem.run_bind]
        exact congrArg (fun r : Result (Array Value) => r.andThen fun (q : Array Value) w'' => Sem.run P (pure (if h : q.size = 1 then q[0] else Value.tuple q)) w'') hrun
      rw [hres3]
      by_cases hl : vs'.length = 1
      · obtain ⟨x, rfl⟩ : ∃ x, vs' = [x] := by
          match vs', hl with
          | [x], _ => exact ⟨x, rfl⟩
        obtain ⟨u, us2, rfl, hu, hnil⟩ := hp.uncons
        have := hnil.nil_r
        subst this
        exact ⟨u, rfl, hu⟩
      · have h1 : ¬ us.toArray.size = 1 := by
          intro h1
          exact hl (by rw [← hp.1]; simpa using h1)
        have e1 : one vs' = .tup vs' := by
          match vs', hl with
          | [], _ => rfl
          | [x], h => exact absurd rfl h
          | _ :: _ :: _, _ => rfl
        rw [e1]
        exact ⟨.tuple us.toArray, by rw [dif_neg h1], .tup us vs' hp.1 hp.2⟩
    have plain : resOf P fn s' = some r → ∃ v, (results fn a'.tmps).run P w' = .ok v w' ∧ (∃ v', Ending.returned v = .returned v' ∧ Fr w J w' ∧ PostR w J w' vs v' r) := fun hres => by
      unfold resOf at hres
      obtain ⟨vs', hvs', hres2⟩ := Option.bind_eq_some_iff.1 hres
      obtain ⟨u, hu, hrv⟩ := key2 vs' hvs'
      obtain ⟨h1, h2⟩ := resT_sound hr' hres2 hrv
      refine ⟨u, hu, u, rfl, hr'.fr, ?_⟩
      cases r <;> first | exact h1 | exact absurd rfl (h2 _ _ _)
    unfold resX at hres
    split at hres
    · rename_i t r0 out
      obtain ⟨hownat, hres⟩ := hres
      obtain ⟨x, hx, hxo⟩ : ∃ x, xs[t]? = some x ∧ x.isOwn = true := by
        unfold ownAt at hownat
        split at hownat
        · exact ⟨_, by assumption, hownat⟩
        · cases hownat
      obtain ⟨ut, hut, _⟩ := hargs.pw.get hx
      have hut' := hgetv t ut hut
      have ht := (hargs.small t x hx hxo).1
      have hpin : I.pin t = some ut := by
        simp only [I, if_pos ht, hx]
        cases x <;> simp only [V.isOwn, reduceCtorEq, Bool.false_eq_true] at hxo <;> exact hut'
      have hpin2 := (hr'.pin t ut hpin).2
      unfold ioOf at hres
      obtain ⟨vs', hvs', h2⟩ := Option.bind_eq_some_iff.1 hres
      obtain ⟨u, hu, hrv⟩ := key2 vs' hvs'
      split at h2
      case isFalse => cases h2
      rename_i hsc
      split at h2
      case isFalse => cases h2
      rename_i hver
      split at h2
      · rename_i cs hcont
        obtain ⟨⟨cs', bs⟩, hc, h3⟩ := Option.bind_eq_some_iff.1 h2
        simp only at h3
        split at h3
        case isFalse => cases h3
        rename_i hn
        simp only [Option.some.injEq, V.io.injEq, true_and] at h3
        obtain ⟨rfl, rfl⟩ := h3
        have hlive : (s'.st t).c.live = true := by rw [hcont]; rfl
        have hB := hr'.blk t hlive
        rw [hcont] at hB
        obtain ⟨g, o, cur, e', hη, hg, hp⟩ := hB
        have hrvt : RV (cx w I s'.st w' η') (η' t) (.ptr t 1 0) := .ptr t 1 0 _ ⟨_, hη⟩ (by simp [cx, hver]) fun v0 hv0 => by
          simp only [cx, hver, hlive, and_self, if_true, Option.some.injEq] at hv0
          subst hv0
          exact ⟨g, o, hη, hη⟩
        have hbox := (box_sound hr' hrvt (by unfold boxAt; rw [if_pos hver, hcont]) hc hn (D := Fresh w J) fun q _ g hl hg => hr'.old q g hl hg).1
        rw [hpin2 hver hlive] at hbox
        exact ⟨u, hu, u, rfl, hr'.fr, hsc, scalT_RC hsc hrv, ut, hut', hbox⟩
      · rename_i sz e l hcont
        split at h2
        case isFalse => cases h2
        rename_i hl
        simp only [Option.some.injEq, V.io.injEq, true_and] at h2
        obtain ⟨rfl, rfl⟩ := h2
        have hlive : (s'.st t).c.live = true := by rw [hcont]; rfl
        have hB := hr'.blk t hlive
        rw [hcont] at hB
        have hrow : RowR w' _ _ (η' t) sz e l := hB
        have hold := fun g hg => hr'.old t g hlive hg
        rw [hpin2 hver hlive] at hrow hold
        exact ⟨u, hu, u, rfl, hr'.fr, hsc, scalT_RC hsc hrv, ut, hut', ⟨hl, hrow.scal hl fun _ _ => rfl⟩, hold⟩
      · cases h2
    · exact plain hres
  rcases he with rfl | rfl
  · exact hfin
  · exact hfin

end Go.Proofs.Ytbmgaebhcomjaaa
