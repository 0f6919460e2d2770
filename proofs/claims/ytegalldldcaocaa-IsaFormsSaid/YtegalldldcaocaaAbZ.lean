/-
The plain reckoning of a function's whole text stands for its run. No condition.
-/
import Derived.Test.YtegalldldcaocaaAbD
namespace Go.Proofs.Ytegalldldcaocaa

section
variable {P : Program} {w0 w : World} {I : Nat → Prop} {n : Nat} {s s' : S} {env : Nat → V} {st : Nat → Blk} {a : Act} {η : Nat → Value} {C : Orc} {E : EqT}

theorem Rel.undef (h : Rel w0 I n s a w η) {d : Nat} (hd : d < n) : Rel w0 I n ⟨upd s.env d (.s undef), s.st⟩ (a.put (some d) undef) w η :=
  Rel.put (env := s.env) (st := s.st) h (.s _) hd

theorem ops_sound (hC : ∀ g sp, C g = some sp → Impl P g sp) (hE : EqOk P E) (ops : List Oper) {K : S → Prop} {Q : Exit → Act → World → Prop}
    (hK : ∀ s' a' w' η', K s' → Rel w0 I n s' a' w' η' → Q .normal a' w') :
    ∀ (r : List Oper) (k : Nat) (s : S) (a : Act) (w : World) (η : Nat → Value), ops.drop k = r → awpOps P C E n ops K r s → Rel w0 I n s a w η → wpOps P ops.toArray Q (List.range' k r.length) a w
  | [], k, s, a, w, η, _, h, hr => by simpa [wpOps] using hK s a w η h hr
  | o :: r, k, s, a, w, η, hd, h, hr => by
    have hk : ops[k]? = some o := by
      have := congrArg (·[0]?) hd
      simpa using this
    have hd' : ops.drop (k + 1) = r := by
      rw [← List.drop_drop, hd]; rfl
    rw [List.length_cons, List.range'_succ]
    unfold wpOps
    have hk' : ops.toArray[k]? = some o := by simpa using hk
    simp only [hk']
    unfold awpOps at h
    have go : thenS (stepV P C E n o s) (awpOps P C E n ops K r) → o.wp P a w (wpOps P ops.toArray Q (List.range' (k + 1) r.length)) Q := fun h => by
      cases hs : stepV P C E n o s with
      | none => rw [hs] at h; exact h.elim
      | some s' =>
        rw [hs] at h
        exact op_sound hC hE hr hs fun η' a' w' hr' => ops_sound hC hE ops hK r (k + 1) s' a' w' η' hd' h hr'
    have pass : thenS (passV n o s) (awpOps P C E n ops K r) → wpOps P ops.toArray Q (List.range' (k + 1) r.length) (a.put o.dst undef) w := fun h => by
      unfold passV at h
      cases hdst : o.dst with
      | none =>
        rw [hdst] at h
        exact ops_sound hC hE ops hK r (k + 1) s a w η hd' h hr
      | some d =>
        rw [hdst] at h
        simp only at h
        split at h
        · rename_i hdn
          exact ops_sound hC hE ops hK r (k + 1) _ _ w η hd' h (hr.undef hdn)
        · exact h.elim
    unfold wants at h
    unfold Region.wanted
    cases hg : o.guard with
    | none =>
      rw [hg] at h
      simp only [if_true]
      exact .inl (go h)
    | some jb =>
      obtain ⟨j, b⟩ := jb
      rw [hg] at h
      simp only at h
      cases hj : (ops[j]?).bind (·.dst) with
      | none => rw [hj] at h; exact h.elim
      | some t =>
        rw [hj] at h
        simp only at h
        cases he : s.env t <;> (rw [he] at h; try (exact h.elim))
        rename_i v
        cases v <;> try (exact h.elim)
        rename_i c
        have hv := hr.env t
        rw [he] at hv
        have hv' := hv.s_inv
        have hy : yielded ops.toArray a.tmps j = some c := by
          unfold yielded
          have : ((ops.toArray[j]?).bind (·.dst)) = some t := by simpa using hj
          rw [this]
          simp only [Option.bind_some]
          rw [Array.getD_eq_getD_getElem?] at hv'
          cases hq : a.tmps[t]? with
          | none => rw [hq] at hv'; simp [undef] at hv'
          | some q => rw [hq] at hv'; simp at hv'; subst hv'; rfl
        simp only [hy]
        cases b <;> cases c <;> simp only [onG_yes, onG_no, br_true, br_false] at h <;> simp
        · exact .inl (go h)
        · exact pass h
        · exact pass h
        · exact .inl (go h)

def Ex.to : Ex → Exit
  | .normal => .normal
  | .exit id => .exit id
  | .ret => .ret

theorem thenS_mono {x : Option S} {K K' : S → Prop} (hK : ∀ s, K s → K' s) (h : thenS x K) : thenS x K' := by
  cases x with
  | none => exact h.elim
  | some s => exact hK s h
theorem onG_mono {g : Option (Option (Bool × Bool))} {A A' B B' : Prop} (hA : A → A') (hB : B → B') (h : onG g A B) : onG g A' B' := by
  match g, h with
  | some none, h => exact hA h
  | some (some (b, true)), h => exact ⟨fun e => hA (h.1 e), fun e => hB (h.2 e)⟩
  | some (some (b, false)), h => exact ⟨fun e => hB (h.1 e), fun e => hA (h.2 e)⟩
theorem Kseq_mono {K K' : Ex → S → Prop} {y y' : S → Prop} (hK : ∀ e s, K e s → K' e s) (hy : ∀ s, y s → y' s) : ∀ e s, Kseq K y e s → Kseq K' y' e s := fun e s h => by
  cases e with
  | normal => exact hy s h
  | exit id => exact hK _ s h
  | ret => exact hK _ s h
theorem Kblock_mono {K K' : Ex → S → Prop} {id : Nat} (hK : ∀ e s, K e s → K' e s) : ∀ e s, Kblock id K e s → Kblock id K' e s := fun e s h => by
  cases e with
  | normal => exact hK _ s h
  | ret => exact hK _ s h
  | exit i =>
    simp only [Kblock] at h ⊢
    split
    · rename_i hi; rw [if_pos hi] at h; exact hK _ s h
    · rename_i hi; rw [if_neg hi] at h; exact hK _ s h
theorem awpOps_mono {ops : List Oper} {K K' : S → Prop} (hK : ∀ s, K s → K' s) : ∀ (r : List Oper) (s : S), awpOps P C E n ops K r s → awpOps P C E n ops K' r s
  | [], s, h => hK s h
  | o :: r, s, h => onG_mono (thenS_mono (awpOps_mono hK r)) (thenS_mono (awpOps_mono hK r)) h
theorem awpOpsD_mono {B T : List Nat} {ops : List Oper} {K K' : S → Prop} (hK : ∀ s, K s → K' s) : ∀ (r : List Oper) (s : S), awpOpsD P C E n B T ops K r s → awpOpsD P C E n B T ops K' r s
  | [], s, h => hK s h
  | [o], s, h => onG_mono (thenS_mono hK) (thenS_mono hK) h
  | o :: o' :: r, s, h => onG_mono (thenS_mono (awpOpsD_mono hK (o' :: r))) (thenS_mono (awpOpsD_mono hK (o' :: r))) h
/-- who wants less gets it, too -/
theorem awp_mono : ∀ (c : Code) {K K' : Ex → S → Prop} (_ : ∀ e s, K e s → K' e s) (s : S), awp P C E n c K s → awp P C E n c K' s := by
  intro c
  induction c with
  | skip => exact fun hK s h => hK _ s h
  | label l => exact fun hK s h => hK _ s h
  | exit id => exact fun hK s h => hK _ s h
  | ret => exact fun hK s h => hK _ s h
  | region id ops draw =>
    intro K K' hK s h
    cases draw with
    | true =>
      obtain ⟨B, T, hok, h⟩ := h
      exact ⟨B, T, hok, awpOpsD_mono (hK .normal) _ s h⟩
    | false => exact awpOps_mono (hK .normal) _ s h
  | seq x y ihx ihy => exact fun hK s h => ihx (Kseq_mono hK (fun s h => ihy hK s h)) s h
  | cond c x y ihx ihy =>
    intro K K' hK s h
    unfold awp at h ⊢
    cases hb : asB (ev s.env c) with
    | none => rw [hb] at h; exact h.elim
    | some b =>
      rw [hb] at h
      exact ⟨fun e => ihx hK s (h.1 e), fun e => ihy hK s (h.2 e)⟩
  | block id c ih => exact fun hK s h => ih (Kblock_mono hK) s h
  | loop c ih => exact fun hK s h Z hZ => h Z fun s hs => hZ s (ih (Kseq_mono hK fun _ h => h) s hs)
  | rangeFunc f ps as b => exact fun _ s h => h.elim
  | scope b => exact fun _ s h => h.elim
  | goto l => exact fun _ s h => h.elim
  | refuse why => exact fun _ s h => h.elim
/-- a loop is a round, and then the loop -/
theorem loop_round {c : Code} {K : Ex → S → Prop} {s : S} (h : awp P C E n c (Kseq K (awp P C E n (.loop c) K)) s) : awp P C E n (.loop c) K s :=
  fun Z hZ => hZ s (awp_mono c (Kseq_mono (fun _ _ h => h) fun s' h' => h' Z hZ) s h)
theorem loop_inv {c : Code} {K : Ex → S → Prop} (J : S → Prop) (μ : S → Nat) (h : ∀ s, J s → awp P C E n c (Kseq K (fun s' => J s' ∧ μ s' < μ s)) s) {s : S} (h0 : J s) : awp P C E n (.loop c) K s := by
  intro Z hZ
  have key : ∀ m s, μ s = m → J s → Z s := by
    intro m
    induction m using Nat.strongRecOn with
    | _ m ih =>
      intro s hm hs
      exact hZ s (awp_mono c (Kseq_mono (fun _ _ h => h) fun s' ⟨h1, h2⟩ => ih (μ s') (hm ▸ h2) s' rfl h1) s (h s hs))
  exact key _ s rfl h0

theorem awp_sound (hm : P.follows .mixedOrders = true) (hC : ∀ g sp, C g = some sp → Impl P g sp) (hE : EqOk P E) : ∀ (c : Code) (K : Ex → S → Prop) (Q : Exit → Act → World → Prop) (s : S) (a : Act) (w : World) (η : Nat → Value),
    awp P C E n c K s → Rel w0 I n s a w η → (∀ e s' a' w' η', K e s' → Rel w0 I n s' a' w' η' → Q e.to a' w') → c.wp P Q a w := by
  intro c
  induction c with
  | skip => exact fun K Q s a w η h hr hK => wp_skip (hK .normal s a w η h hr)
  | label l => exact fun K Q s a w η h hr hK => wp_label (hK .normal s a w η h hr)
  | exit id => exact fun K Q s a w η h hr hK => wp_exit (hK (.exit id) s a w η h hr)
  | ret => exact fun K Q s a w η h hr hK => wp_ret (hK .ret s a w η h hr)
  | region id ops draw =>
    intro K Q s a w η h hr hK
    cases draw with
    | true =>
      obtain ⟨B, T, hok, h⟩ := h
      exact region_sound hm hC hE hok (fun s' a' w' η' hk hr' => hK .normal s' a' w' η' hk hr') h hr
    | false =>
    refine wp_region ?_
    have := ops_sound hC hE ops.toList (K := K .normal) (Q := Q) (fun s' a' w' η' hk hr' => hK .normal s' a' w' η' hk hr') ops.toList 0 s a w η rfl h hr
    simpa [List.range_eq_range'] using this
  | seq x y ihx ihy =>
    intro K Q s a w η h hr hK
    refine wp_seq (ihx (Kseq K (awp P C E n y K)) _ s a w η h hr fun e s' a' w' η' hk hr' => ?_)
    cases e with
    | normal => exact ihy K Q s' a' w' η' hk hr' hK
    | exit id => exact hK (.exit id) s' a' w' η' hk hr'
    | ret => exact hK .ret s' a' w' η' hk hr'
  | cond c x y ihx ihy =>
    intro K Q s a w η h hr hK
    unfold awp at h
    cases hb : asB (ev s.env c) with
    | none => rw [hb] at h; exact h.elim
    | some b =>
      rw [hb] at h
      have hv := hr.eval c
      unfold asB at hb
      split at hb
      · rename_i b' he
        simp only [Option.some.injEq] at hb
        subst hb
        rw [he] at hv
        refine wp_cond hv.s_inv ?_
        cases b' with
        | true => exact ihx K Q s a w η (by simpa using h) hr hK
        | false => exact ihy K Q s a w η (by simpa using h) hr hK
      · cases hb
  | block id c ih =>
    intro K Q s a w η h hr hK
    refine wp_block (ih (Kblock id K) _ s a w η h hr fun e s' a' w' η' hk hr' => ?_)
    cases e with
    | normal => exact hK .normal s' a' w' η' hk hr'
    | ret => exact hK .ret s' a' w' η' hk hr'
    | exit i =>
      simp only [Kblock] at hk
      simp only [Ex.to, Exit.inBlock]
      split
      · rename_i hi
        rw [if_pos hi] at hk
        exact hK .normal s' a' w' η' hk hr'
      · rename_i hi
        rw [if_neg hi] at hk
        exact hK (.exit i) s' a' w' η' hk hr'
  | loop c ih =>
    intro K Q s a w η h hr hK
    intro b k cs
    have key := h (fun s => ∀ a w η, Rel w0 I n s a w η → ∃ e a' w', Q e a' w' ∧ Arrives P (lone (b.at a (.code c :: .inLoop c :: k)) cs w) b k cs e a' w') (fun s hs a w η hr => by
      have hw := ih _ (fun e a' w' => match e with
        | .normal => ∃ s' η', (∀ a w η, Rel w0 I n s' a w η → ∃ e a' w', Q e a' w' ∧ Arrives P (lone (b.at a (.code c :: .inLoop c :: k)) cs w) b k cs e a' w') ∧ Rel w0 I n s' a' w' η'
        | e => Q e a' w') s a w η hs hr (fun e s' a' w' η' hk hr' => by
          cases e with
          | normal => exact ⟨s', η', hk, hr'⟩
          | exit id => exact hK (.exit id) s' a' w' η' hk hr'
          | ret => exact hK .ret s' a' w' η' hk hr')
      obtain ⟨e, a₁, w₁, hq, harr⟩ := hw b (.inLoop c :: k) cs
      cases e with
      | normal =>
        obtain ⟨s', η', hI₁, hr₁⟩ := hq
        obtain ⟨e₂, a₂, w₂, hq₂, harr₂⟩ := hI₁ a₁ w₁ η' hr₁
        exact ⟨e₂, a₂, w₂, hq₂, .of_steps (Steps.trans harr (.one step_inLoop)) harr₂⟩
      | exit id => exact ⟨_, a₁, w₁, hq, .pass (x := .inLoop c) rfl (fun _ _ => .inl (by simp)) harr⟩
      | goto l => exact ⟨_, a₁, w₁, hq, .pass (x := .inLoop c) rfl (fun _ _ => .inl (by simp)) harr⟩
      | ret => exact ⟨_, a₁, w₁, hq, .pass (x := .inLoop c) rfl (fun _ _ => .inl (by simp)) harr⟩
      | panic ch => exact ⟨_, a₁, w₁, hq, .pass (x := .inLoop c) rfl (fun _ _ => .inl (by simp)) harr⟩
      | outgrown => exact ⟨_, a₁, w₁, hq, .pass (x := .inLoop c) rfl (fun _ _ => .inl (by simp)) harr⟩)
    obtain ⟨e, a', w', hq, harr⟩ := key a w η hr
    exact ⟨e, a', w', hq, .of_steps (.one step_loop) harr⟩
  | rangeFunc f ps as b => exact fun K Q s a w η h => h.elim
  | scope b => exact fun K Q s a w η h => h.elim
  | goto l => exact fun K Q s a w η h => h.elim
  | refuse why => exact fun K Q s a w η h => h.elim

theorem resV_sound (h : Rel w0 I n s a w η) : ∀ (k : Nat) (x y : V) (u : Value), resV s.st k x = some y → RV (cx w0 I s.st w η) u x → RC w (fun _ => False) (Fresh w0 I) true u y
  | 0, x, y, u, hx, _ => by simp [resV] at hx
  | k + 1, x, y, u, hx, hu => by
    cases x <;> simp only [resV, reduceCtorEq] at hx
    case s v =>
      simp only [Option.some.injEq] at hx
      subst hx
      rw [hu.s_inv]; exact .s _ _
    case agg l =>
      obtain ⟨l', hl', rfl⟩ := Option.map_eq_some_iff.1 hx
      obtain ⟨us, rfl, hp⟩ := hu.agg_inv
      exact rc_agg _ _ (mapM_PW hl' hp fun u x y _ hr hf => resV_sound h k x y u hf hr)
    case tup l =>
      obtain ⟨l', hl', rfl⟩ := Option.map_eq_some_iff.1 hx
      obtain ⟨us, rfl, hp⟩ := hu.tup_inv
      have := mapM_PW (R' := RC w (fun _ => False) (Fresh w0 I) true) hl' hp fun u x y _ hr hf => resV_sound h k x y u hf hr
      exact .tup _ us l' this.1 this.2
    case lst fr sz l =>
      split at hx
      case isFalse => cases hx
      rename_i hfr
      simp only [Option.some.injEq] at hx
      subst hx
      subst hfr
      exact hu.lst_inv.refresh rfl fun g _ hf => ⟨fun h => h, hf⟩
    case sw b ver =>
      obtain ⟨⟨sz, e, l⟩, hb, rfl⟩ := Option.map_eq_some_iff.1 hx
      obtain ⟨hver, hcont, hl, us, ho, h2, h3, h4⟩ := look_row h hb
      have e1 := hu.sw_inv _ hl
      subst e1
      have h3' := h3.imp fun u x hr => hr.refresh (own' := fun _ => False) (fresh' := Fresh w0 I) rfl fun g _ hf => ⟨fun h => h, hf⟩
      rcases ho.2 with ⟨h5, h6⟩ | ⟨g, cap, cur, h5, h6, h7, h8, h9⟩
      · rw [h5]
        have hl0 : l = [] := List.eq_nil_of_length_eq_zero h6
        subst hl0
        exact .lst _ true sz [] none 0 [] (Nat.le_refl _) (fun x hx => by simp at hx) rfl (fun i u x hu => by simp at hu) (fun u hu => by simp at hu) (.inl rfl)
      · rw [h5]
        refine .lst _ true sz l _ cap us h8 h2 h3'.1 h3'.2 h4 (.inr ⟨g, 0, rfl, fun h => h, fun _ => ?_, fun j u hj => ?_⟩)
        · exact h.old b g (by rw [hcont]; rfl) (by rw [h5]; rfl)
        · have := ho.cells (g := g) (by rw [h5]; rfl) j u hj
          rwa [Addr.add_lit] at this

theorem resT_sound (h : Rel w0 I n s a w η) {x y : V} {u : Value} (hx : resT s.st x = some y) (hu : RV (cx w0 I s.st w η) u x) : ResR w0 I w u y := by
  unfold resT at hx
  split at hx
  · rename_i b ver
    obtain ⟨⟨sz, e, l⟩, hb, rfl⟩ := Option.map_eq_some_iff.1 hx
    obtain ⟨hver, hcont, hl, us, ho, h2, h3, h4⟩ := look_row h hb
    have e1 := hu.sw_inv _ hl
    subst e1
    have hlive : (s.st b).c.live = true := by rw [hcont]; rfl
    exact ⟨⟨us, ho, h2, h3.imp fun u x hr => hr.mono fun g hg _ => ⟨rfl, fun hb' => hg ⟨b, hlive, hb'⟩⟩, h4⟩, fun g hg => h.old b g hlive hg⟩
  · have := resV_sound h 4 x y u hx hu
    cases y <;> first | exact this | (cases this)

end

theorem mapM_cons' {α β : Type} (f : α → Option β) (x : α) (l : List α) : (x :: l).mapM f = (f x).bind fun y => (l.mapM f).bind fun ys => some (y :: ys) := by
  simp [List.mapM_cons]

/-- a function's end: it answers r -/
def Fin (P : Program) (fn : Func) (r : V) (e : Ex) (s : S) : Prop := (e = .normal ∨ e = .ret) ∧ resOf P fn s = some r
theorem fin_ret {P : Program} {fn : Func} {r : V} {s : S} (h : resOf P fn s = some r) : Fin P fn r .ret s := ⟨.inr rfl, h⟩
theorem fin_normal {P : Program} {fn : Func} {r : V} {s : S} (h : resOf P fn s = some r) : Fin P fn r .normal s := ⟨.inl rfl, h⟩

/-- what the reckoning shows of every answer holds of the call -/
theorem impl_of {P : Program} {C : Orc} {E : EqT} (hm : P.follows .mixedOrders = true) (hC : ∀ g sp, C g = some sp → Impl P g sp) (hE : EqOk P E) {f : Nat} {fn : Func} {c : Code} {sp : Spec} (hf : P.funcs[f]? = some fn) (hb : fn.body = some c)
    (hname : (fn.name == "runtime.NumGoroutine") = false)
    (h : ∀ xs r, sp.fn xs = some r → xs.length ≤ fn.ntmps ∧ awp P C E fn.ntmps c (Fin P fn r) (init xs)) : Impl P f sp := by
  refine ⟨⟨fn, hf, hname, by rw [hb]; rfl⟩, fun xs r hr vs w J hargs => ?_⟩
  obtain ⟨hlen, hawp⟩ := h xs r hr
  have hvl : vs.toList.length = xs.length := hargs.pw.1
  have hvs : vs.size = xs.length := by simpa using hvl
  refine calls_of_wp hf hb ?_
  have hst : ∀ t, ((init xs).st t).c.live = true → ∃ sz e l, xs[t]? = some (.own sz e l) ∧ (init xs).st t = ⟨1, .row sz e l⟩ := fun t ht => by
    simp only [init] at ht ⊢
    split at ht
    · rename_i sz e l hx
      exact ⟨sz, e, l, hx, rfl⟩
    · cases ht
  have hrel : Rel w J fn.ntmps (init xs) { tmps := vs ++ Array.replicate (fn.ntmps - vs.size) undef, defers := [] } w (fun t => vs.getD t undef) := by
    have hown : ∀ g, (cx w J (init xs).st w (fun t => vs.getD t undef)).own g → J g := fun g ⟨b, hb, hg⟩ => by
      obtain ⟨sz, e, l, hx, _⟩ := hst b hb
      obtain ⟨u, hu, hr⟩ := hargs.pw.get hx
      have : vs.getD b undef = u := by
        rw [Array.getD_eq_getD_getElem?]
        have : vs[b]? = some u := by simpa using hu
        rw [this]; rfl
      simp only [this] at hg
      exact hr.2 g hg
    refine ⟨by simp; omega, rfl, fun t => ?_, fun b hb => ?_, fun b b' g hb hb' _ _ => ?_, fun b g hb hg => .inr (hown g ⟨b, hb, hg⟩), ⟨rfl, rfl, rfl, Nat.le_refl _, fun _ _ _ => rfl⟩⟩
    · simp only [init]
      have hget : ∀ u, vs[t]? = some u → (vs ++ Array.replicate (fn.ntmps - vs.size) undef).getD t undef = u := fun u hu => by
        have hlt := (Array.getElem?_eq_some_iff.1 hu).1
        rw [Array.getD_eq_getD_getElem?, Array.getElem?_append_left hlt, hu]; rfl
      split
      · rename_i sz e l hx
        obtain ⟨u, hu, hr⟩ := hargs.pw.get hx
        have hu' : vs[t]? = some u := by simpa using hu
        rw [hget u hu']
        have hg : vs.getD t undef = u := by rw [Array.getD_eq_getD_getElem?, hu']; rfl
        obtain ⟨⟨us, ho, _⟩, _⟩ := hr
        refine .sw t 1 u ?_ (by simp [cx, init, hx]) fun v0 hv0 => ?_
        · rcases ho.2 with ⟨h', _⟩ | ⟨_, _, _, h', _⟩ <;> rw [h'] <;> rfl
        · simp only [cx, init, hx] at hv0
          simp [Cont.live] at hv0
          rw [← hv0, ← Array.getD_eq_getD_getElem?, hg]
      · rename_i x hno hx
        obtain ⟨u, hu, hr⟩ := hargs.pw.get hx
        have hu' : vs[t]? = some u := by simpa using hu
        rw [hget u hu']
        have hrc : RC w J (Fresh w J) false u x := by
          cases x <;> first | exact hr | exact absurd rfl (hno _ _ _)
        have := hrc.mono (w' := w) (own' := (cx w J (init xs).st w (fun t => vs.getD t undef)).own) fun g hg _ => ⟨rfl, fun h => hg (hown g h)⟩
        exact RC.rvu (c := cx w J (init xs).st w (fun t => vs.getD t undef)) this
      · rename_i hx
        have hge : vs.size ≤ t := by
          rw [hvs]
          rcases Nat.lt_or_ge t xs.length with h' | h'
          · rw [List.getElem?_eq_getElem h'] at hx; cases hx
          · exact h'
        have : (vs ++ Array.replicate (fn.ntmps - vs.size) undef).getD t undef = undef := by
          rw [Array.getD_eq_getD_getElem?, Array.getElem?_append_right hge, Array.getElem?_replicate]
          split <;> rfl
        rw [this]; exact .s _
    · obtain ⟨sz, e, l, hx, hb'⟩ := hst b hb
      obtain ⟨u, hu, hr⟩ := hargs.pw.get hx
      have hu' : vs[b]? = some u := by simpa using hu
      have hg : vs.getD b undef = u := by rw [Array.getD_eq_getD_getElem?, hu']; rfl
      rw [hb', hg]
      obtain ⟨⟨us, ho, h2, h3, h4⟩, _⟩ := hr
      exact ⟨us, ho, h2, h3.imp fun u x hx => hx.mono fun g hg _ => ⟨rfl, fun h => hg (hown g h)⟩, h4⟩
    · obtain ⟨sz, e, l, hx, _⟩ := hst b hb
      obtain ⟨sz', e', l', hx', _⟩ := hst b' hb'
      exact hargs.one b b' sz e l sz' e' l' hx hx'
  refine awp_sound hm hC hE c _ _ (init xs) _ w _ hawp hrel fun e s' a' w' η' hk hr' => ?_
  obtain ⟨he, hres⟩ := hk
  have hfin : a'.defers = [] ∧ ∃ v, (results fn a'.tmps).run P w' = .ok v w' ∧ (∃ v', Ending.returned v = .returned v' ∧ Fr w J w' ∧ ResR w J w' v' r) := by
    refine ⟨hr'.defers, ?_⟩
    unfold resOf at hres
    obtain ⟨vs', hvs', hres2⟩ := Option.bind_eq_some_iff.1 hres
    have key : ∀ (rs : List ResultVar) (ys : List V), (rs.mapM (m := Option) fun r => match r with
        | .tmp t => if t < fn.ntmps then some (s'.env t) else none
        | .cell a t => if a < fn.ntmps then loadV P s'.st t (s'.env a) else none) = some ys →
        ∃ us, (rs.mapM (m := Sem) fun
          | .tmp t => pure (a'.tmps.getD t undef)
          | .cell a t => do loadVar t (← asAddr (a'.tmps.getD a undef))).run P w' = .ok us w' ∧ PW (RV (cx w J s'.st w' η')) us ys := by
      intro rs
      induction rs with
      | nil => intro ys h; simp at h; subst h; exact ⟨[], by simp, PW.nil⟩
      | cons q rs ih =>
        intro ys h
        rw [mapM_cons'] at h
        obtain ⟨y, hy, h2⟩ := Option.bind_eq_some_iff.1 h
        obtain ⟨ys', hys', h3⟩ := Option.bind_eq_some_iff.1 h2
        simp only [Option.some.injEq] at h3
        subst h3
        obtain ⟨us, hus, hp⟩ := ih ys' hys'
        cases q with
        | tmp t =>
          simp only at hy
          split at hy
          case isFalse => cases hy
          simp only [Option.some.injEq] at hy
          subst hy
          exact ⟨_ :: us, by simp only [List.mapM_cons, Sem.run_bind, Sem.run_pure, Result.andThen_ok, hus], PW.cons (hr'.env t) hp⟩
        | cell t ty =>
          simp only at hy
          split at hy
          case isFalse => cases hy
          obtain ⟨u, hu, hv⟩ := load_sound hr' hy (hr'.env t)
          have hu2 : (do loadVar ty (← asAddr (a'.tmps.getD t undef)) : Sem Value).run P w' = .ok u w' := by
            unfold Instr.loadAt at hu
            generalize a'.tmps.getD t undef = q at hu ⊢
            cases q with
            | pointer p => cases p with
              | none => simp [Instr.sureAddr, stuck] at hu
              | some p => simpa [Instr.sureAddr, asAddr] using hu
            | _ => simp [Instr.sureAddr, stuck] at hu
          refine ⟨u :: us, ?_, PW.cons hv hp⟩
          rw [List.mapM_cons]
          simp only [Sem.run_bind] at hu2 ⊢
          rw [hu2]
          simp only [Result.andThen_ok, Sem.run_bind, hus, Sem.run_pure]
    obtain ⟨us, hus, hp⟩ := key fn.results.toList vs' hvs'
    have hrun : (fn.results.mapM (m := Sem) fun
          | .tmp t => pure (a'.tmps.getD t undef)
          | .cell a t => do loadVar t (← asAddr (a'.tmps.getD a undef))).run P w' = .ok us.toArray w' := by
      rw [Array.mapM_eq_mapM_toList]
      simp only [Sem.run_map, hus, Result.andThen_ok]
    have hres3 : (results fn a'.tmps).run P w' = .ok (if h : us.toArray.size = 1 then us.toArray[0] else .tuple us.toArray) w' := by
      unfold results
      simp only [Sem.run_bind]
      exact congrArg (fun r : Result (Array Value) => r.andThen fun (q : Array Value) w'' => Sem.run P (pure (if h : q.size = 1 then q[0] else Value.tuple q)) w'') hrun
    rw [hres3]
    split at hres2
    · rename_i x
      obtain ⟨u, us2, rfl, hu, hnil⟩ := hp.uncons
      have := hnil.nil_r
      subst this
      exact ⟨u, rfl, u, rfl, hr'.fr, resT_sound hr' hres2 hu⟩
    · rename_i hne
      have h1 : ¬ us.toArray.size = 1 := by
        intro h1
        have : vs'.length = 1 := by rw [← hp.1]; simpa using h1
        match vs', this with
        | [x], _ => exact hne x rfl
      exact ⟨.tuple us.toArray, by rw [dif_neg h1], _, rfl, hr'.fr, resT_sound hr' hres2 (.tup us vs' hp.1 hp.2)⟩
  rcases he with rfl | rfl
  · exact hfin
  · exact hfin

end Go.Proofs.Ytegalldldcaocaa
