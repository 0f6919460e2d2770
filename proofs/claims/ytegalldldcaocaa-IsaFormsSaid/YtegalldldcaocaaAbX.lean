/-
Calls: what a function is known to answer serves the one that calls it. No condition.
-/
import Derived.Test.YtegalldldcaocaaAbW
namespace Go.Proofs.Ytegalldldcaocaa

def Fresh (w : World) (J : Nat → Prop) : Nat → Prop := fun g => w.heap.size ≤ g ∨ J g

/-- an argument as the called function has it -/
def ArgR (w : World) (J : Nat → Prop) (u : Value) : V → Prop
  | .own sz e l => RowR w J (Fresh w J) u sz e l ∧ ∀ g, blkOf u = some g → J g
  | x => RC w J (Fresh w J) false u x

structure Args (w : World) (J : Nat → Prop) (vs : List Value) (xs : List V) : Prop where
  pw : PW (ArgR w J) vs xs
  one : ∀ (i j sz e : Nat) (l : List V) (sz' e' : Nat) (l' : List V), xs[i]? = some (V.own sz e l) → xs[j]? = some (V.own sz' e' l') → i = j

/-- a result as its caller has it -/
def ResR (w : World) (J : Nat → Prop) (w' : World) (v : Value) : V → Prop
  | .own sz e l => RowR w' (fun g => blkOf v = some g) (Fresh w J) v sz e l ∧ ∀ g, blkOf v = some g → Fresh w J g
  | r => RC w' (fun _ => False) (Fresh w J) true v r

/-- the function does what is known of it -/
def Impl (P : Program) (g : Nat) (sp : Spec) : Prop :=
  (∃ fn, P.funcs[g]? = some fn ∧ (fn.name == "runtime.NumGoroutine") = false ∧ fn.body.isNone = false) ∧
  ∀ xs r, sp.fn xs = some r → ∀ (vs : Array Value) (w : World) (J : Nat → Prop), Args w J vs.toList xs →
    Calls P g vs w fun e w' => ∃ v, e = .returned v ∧ Fr w J w' ∧ ResR w J w' v r

section
variable {P : Program} {w0 w : World} {I : Nat → Prop} {n : Nat} {s : S} {env : Nat → V} {st : Nat → Blk} {a : Act} {η : Nat → Value}

theorem Rel.lt (h : Rel w0 I n s a w η) {b g : Nat} (hb : (s.st b).c.live = true) (hg : blkOf (η b) = some g) : g < w.heap.size := by
  have hB := h.blk b hb
  cases hc : (s.st b).c with
  | gone => rw [hc] at hb; cases hb
  | box cells =>
    rw [hc] at hB
    obtain ⟨g1, o, cur, e1, hv, hg1, hp⟩ := hB
    rw [hv] at hg; simp [blkOf] at hg; rw [hg] at hg1
    exact (Array.getElem?_eq_some_iff.1 hg1).1
  | row sz e1 l =>
    rw [hc] at hB
    obtain ⟨us, ho, _⟩ := hB
    exact ownsRow_lt ho hg

theorem mapM_PW {R R' : Value → V → Prop} {f : V → Option V} : ∀ {us : List Value} {l l' : List V}, l.mapM f = some l' → PW R us l → (∀ u x y, x ∈ l → R u x → f x = some y → R' u y) → PW R' us l'
  | us, [], l', h, hp, _ => by
    simp at h
    subst h
    rw [hp.nil_r]; exact PW.nil
  | us, x :: l, l', h, hp, hf => by
    obtain ⟨u, us', rfl, h1, h2⟩ := hp.uncons
    simp only [List.mapM_cons, Option.bind_eq_bind, Option.pure_def] at h
    obtain ⟨y, hy, h3⟩ := Option.bind_eq_some_iff.1 h
    obtain ⟨l2, hl2, h4⟩ := Option.bind_eq_some_iff.1 h3
    simp only [Option.some.injEq] at h4
    subst h4
    exact PW.cons (hf u x y (by simp) h1 hy) (mapM_PW hl2 h2 fun u x y hx => hf u x y (by simp [hx]))

theorem RC.noown {own fresh fresh' : Nat → Prop} {k : Bool} {v : Value} {x : V} (h : RC w own fresh k v x) : RC w (fun _ => False) fresh' false v x :=
  (h.mono (own' := fun _ => False) fun g _ _ => ⟨rfl, fun h => h⟩).weak

theorem exp_sound (h : Rel w0 I n s a w η) {F : Nat → Prop} : ∀ (k : Nat) (x y : V) (u : Value), expV s.st k x = some y → RV (cx w0 I s.st w η) u x → RC w (fun _ => False) F false u y
  | 0, x, y, u, hx, _ => by simp [expV] at hx
  | k + 1, x, y, u, hx, hu => by
    cases x <;> simp only [expV, reduceCtorEq] at hx
    case s v =>
      simp only [Option.some.injEq] at hx
      subst hx
      rw [hu.s_inv]; exact .s _ _
    case agg l =>
      obtain ⟨l', hl', rfl⟩ := Option.map_eq_some_iff.1 hx
      obtain ⟨us, rfl, hp⟩ := hu.agg_inv
      exact rc_agg _ _ (mapM_PW hl' hp fun u x y _ hr hf => exp_sound h k x y u hf hr)
    case tup l =>
      obtain ⟨l', hl', rfl⟩ := Option.map_eq_some_iff.1 hx
      obtain ⟨us, rfl, hp⟩ := hu.tup_inv
      have := mapM_PW (R' := RC w (fun _ => False) F false) hl' hp fun u x y _ hr hf => exp_sound h k x y u hf hr
      exact .tup _ us l' this.1 this.2
    case fn f l =>
      obtain ⟨l', hl', rfl⟩ := Option.map_eq_some_iff.1 hx
      obtain ⟨us, rfl, hp⟩ := hu.fn_inv
      have := mapM_PW (R' := RC w (fun _ => False) F false) hl' hp fun u x y _ hr hf => exp_sound h k x y u hf hr
      exact .fn _ f us l' this.1 this.2
    case lst fr sz l =>
      simp only [Option.some.injEq] at hx
      subst hx
      exact (hu.lst_inv.noown (fresh' := F)).unfr
    case ept l =>
      simp only [Option.some.injEq] at hx
      subst hx
      exact hu.ept_inv.noown
    case sw b ver =>
      obtain ⟨⟨sz, e, l⟩, hb, rfl⟩ := Option.map_eq_some_iff.1 hx
      obtain ⟨A, cp, us, rfl, h1, h2, h3, h4, h5⟩ := elems_sound h hu (sz := sz) (fr := true) (l := l) (by simp [elemsOf, hb])
      have h3' := h3.imp fun u x hr => hr.noown (fresh' := F)
      refine .lst _ false sz l A cp us h1 h2 h3'.1 h3'.2 h4 ?_
      rcases h5 with h5 | ⟨g, o, h6, h7⟩
      · exact .inl h5
      · exact .inr ⟨g, o, h6, fun h => h, fun h => (by cases h), h7⟩
    case sp b ver sz off len =>
      obtain ⟨⟨sz', e, l⟩, hb, h2⟩ := Option.bind_eq_some_iff.1 hx
      simp only at h2
      split at h2
      case isFalse => cases h2
      rename_i hc
      simp only [Option.some.injEq] at h2
      subst h2
      obtain ⟨A, cp, us, rfl, h1, h2, h3, h4, h5⟩ := elems_sound h hu (sz := sz) (fr := true) (l := (l.drop off).take len) (by simp [elemsOf, hb, hc])
      have h3' := h3.imp fun u x hr => hr.noown (fresh' := F)
      refine .lst _ false sz _ A cp us h1 h2 h3'.1 h3'.2 h4 ?_
      rcases h5 with h5 | ⟨g, o, h6, h7⟩
      · exact .inl h5
      · exact .inr ⟨g, o, h6, fun h => h, fun h => (by cases h), h7⟩
    case ptr b ver off =>
      obtain ⟨cs, hb, h2⟩ := Option.bind_eq_some_iff.1 hx
      obtain ⟨l', hl', rfl⟩ := Option.map_eq_some_iff.1 h2
      obtain ⟨_, _, hl, g, o, cur, e, hη, hg, hp⟩ := look_box h hb
      obtain ⟨_, hp2⟩ := hu.ptr_inv
      obtain ⟨g', o', h1, rfl⟩ := hp2 _ hl
      rw [hη] at h1
      simp only [Value.pointer.injEq, Option.some.injEq, Addr.mk.injEq] at h1
      obtain ⟨rfl, rfl, _⟩ := h1
      have hpw := mapM_PW (R' := RC w (fun _ => False) F false) hl' (hp.drop off) fun u x y _ hr hf => exp_sound h k x y u hf hr
      refine .ept _ l' g (o + off) hpw.1 hpw.2 (.inr ⟨fun h => h, fun j u hj => ?_⟩)
      simp only [List.getElem?_drop, List.getElem?_take] at hj
      split at hj
      · simp only [World.cell?, hg]
        simpa [Nat.add_assoc] using hj
      · cases hj

theorem exp_notown {st : Nat → Blk} : ∀ (k : Nat) (x y : V), expV st k x = some y → ∀ sz e l, y ≠ .own sz e l := by
  intro k x y h sz e l hy
  subst hy
  cases k with
  | zero => simp [expV] at h
  | succ k =>
    cases x <;> simp only [expV, reduceCtorEq, Option.some.injEq] at h
    case agg => obtain ⟨_, _, h⟩ := Option.map_eq_some_iff.1 h; cases h
    case tup => obtain ⟨_, _, h⟩ := Option.map_eq_some_iff.1 h; cases h
    case fn => obtain ⟨_, _, h⟩ := Option.map_eq_some_iff.1 h; cases h
    case sw => obtain ⟨⟨_, _, _⟩, _, h⟩ := Option.map_eq_some_iff.1 h; cases h
    case sp =>
      obtain ⟨⟨_, _, _⟩, _, h⟩ := Option.bind_eq_some_iff.1 h
      simp only at h
      split at h <;> simp at h
    case ptr =>
      obtain ⟨_, _, h⟩ := Option.bind_eq_some_iff.1 h
      obtain ⟨_, _, h⟩ := Option.map_eq_some_iff.1 h; cases h

theorem RC.scal {w w' : World} {own fresh own' fresh' : Nat → Prop} {k k' : Bool} {v : Value} {x : V} (hx : x.scal = true) (h : RC w own fresh k v x) : RC w' own' fresh' k' v x := by
  cases x <;> simp only [V.scal, reduceCtorEq, Bool.false_eq_true] at hx
  case s u => cases h; exact .s _ _
  case agg l =>
    cases h with
    | agg _ us _ hl he =>
      refine .agg _ us l hl fun i u y hu hy => ?_
      have := List.all_eq_true.1 hx y (List.mem_of_getElem? hy)
      split at this
      · have := he i u _ hu hy
        cases this
        exact .s _ _
      · cases this

theorem ArgR.of {w : World} {J : Nat → Prop} {u : Value} {x : V} (h : RC w J (Fresh w J) false u x) (hx : ∀ sz e l, x ≠ .own sz e l) : ArgR w J u x := by
  cases x <;> first | exact h | exact absurd rfl (hx _ _ _)

theorem ArgR.scal {w : World} {J J' : Nat → Prop} {u : Value} {x : V} (hx : x.scal = true) (h : ArgR w J u x) : ArgR w J' u x := by
  cases x <;> first | (simp [V.scal] at hx; done) | exact RC.scal hx h

def Moved (η : Nat → Value) (bs : List Nat) : Nat → Prop := fun g => ∃ b ∈ bs, blkOf (η b) = some g

theorem args_sound (h : Rel w0 I n s a w η) : ∀ (xs : List V) (mv : List Bool) (ys : List V) (bs : List Nat) (us : List Value), argsV s.st mv xs = some (ys, bs) → PW (RV (cx w0 I s.st w η)) us xs →
    Args w (Moved η bs) us ys ∧ (∀ b ∈ bs, (s.st b).c.live = true)
  | [], mv, ys, bs, us, hx, hp => by
    simp only [argsV, Option.some.injEq, Prod.mk.injEq] at hx
    obtain ⟨rfl, rfl⟩ := hx
    rw [hp.nil_r]
    exact ⟨⟨PW.nil, fun i j sz e l sz' e' l' hi => by simp at hi⟩, fun b hb => by simp at hb⟩
  | x :: xs, mv, ys, bs, us, hx, hp => by
    obtain ⟨u, us', rfl, h1, h2⟩ := hp.uncons
    simp only [argsV] at hx
    obtain ⟨⟨ys', bs'⟩, ht, hx2⟩ := Option.bind_eq_some_iff.1 hx
    obtain ⟨ih, ihl⟩ := args_sound h xs mv.tail ys' bs' us' ht h2
    simp only at hx2
    split at hx2
    · rename_i b ver _
      obtain ⟨⟨sz, e, l⟩, hb, hx3⟩ := Option.bind_eq_some_iff.1 hx2
      simp only at hx3
      split at hx3
      case isFalse => cases hx3
      rename_i hc
      obtain ⟨rfl, hys, hl⟩ := hc
      simp only [Option.some.injEq, Prod.mk.injEq] at hx3
      obtain ⟨rfl, rfl⟩ := hx3
      obtain ⟨hver, hcont, hlook, hrow⟩ := look_row h hb
      have e1 := h1.sw_inv _ hlook
      subst e1
      refine ⟨⟨PW.cons ?_ (ih.pw.impm fun u x hx hr => ArgR.scal (List.all_eq_true.1 hys x hx) hr), fun i j sz1 e1 l1 sz2 e2 l2 hi hj => ?_⟩, fun b' hb' => ?_⟩
      · obtain ⟨us0, ho, hu0, hp0, h10⟩ := hrow
        exact ⟨⟨us0, ho, hu0, scal_RC hl hp0, h10⟩, fun g hg => ⟨b, by simp, hg⟩⟩
      · have nope : ∀ i sz1 e1 l1, ys'[i]? = some (V.own sz1 e1 l1) → False := fun i sz1 e1 l1 hi => by
          have := List.all_eq_true.1 hys _ (List.mem_of_getElem? hi)
          simp [V.scal] at this
        cases i with
        | zero => cases j with
          | zero => rfl
          | succ j => exact (nope j _ _ _ (by simpa using hj)).elim
        | succ i => exact (nope i _ _ _ (by simpa using hi)).elim
      · simp at hb'
        subst hb'
        rw [hcont]; rfl
    · obtain ⟨y, hy, hx3⟩ := Option.bind_eq_some_iff.1 hx2
      split at hx3
      case isFalse => cases hx3
      rename_i hc
      simp only [Option.some.injEq, Prod.mk.injEq] at hx3
      obtain ⟨rfl, rfl⟩ := hx3
      have hno := exp_notown _ _ _ hy
      refine ⟨⟨PW.cons ?_ ih.pw, fun i j sz1 e1 l1 sz2 e2 l2 hi hj => ?_⟩, ihl⟩
      · refine ArgR.of ?_ hno
        have hr := exp_sound h (F := Fresh w (Moved η bs')) 4 _ y u hy h1
        rcases hc with rfl | hc
        · exact hr.mono fun g _ _ => ⟨rfl, fun ⟨b, hb, _⟩ => by simp at hb⟩
        · exact RC.scal hc hr
      · cases i with
        | zero => simp at hi; exact absurd hi (hno _ _ _)
        | succ i => cases j with
          | zero => simp at hj; exact absurd hj (hno _ _ _)
          | succ j => rw [ih.one i j sz1 e1 l1 sz2 e2 l2 (by simpa using hi) (by simpa using hj)]

theorem ups_gone (st : Nat → Blk) : ∀ (bs : List Nat) (st' : Nat → Blk) (j : Nat), (∀ b, (st' b).ver = (st b).ver) →
    (ups st' (bs.map fun b => (b, ⟨(st b).ver, Cont.gone⟩)) j).ver = (st j).ver ∧ (j ∈ bs → (ups st' (bs.map fun b => (b, ⟨(st b).ver, Cont.gone⟩)) j).c.live = false) ∧ (j ∉ bs → ups st' (bs.map fun b => (b, ⟨(st b).ver, Cont.gone⟩)) j = st' j)
  | [], st', j, h => ⟨h j, fun hj => by simp at hj, fun _ => rfl⟩
  | b :: bs, st', j, h => by
    have ih := ups_gone st bs (upd st' b ⟨(st b).ver, Cont.gone⟩) j (fun q => by simp only [upd]; split <;> simp_all)
    simp only [List.map_cons, ups]
    refine ⟨ih.1, fun hj => ?_, fun hj => ?_⟩
    · by_cases hb : j ∈ bs
      · exact ih.2.1 hb
      · rw [ih.2.2 hb]
        have : j = b := by simpa [hb] using hj
        subst this
        simp [upd, Cont.live]
    · simp only [List.mem_cons, not_or] at hj
      rw [ih.2.2 hj.2]
      simp [upd, hj.1]
theorem ups_append (l m : List (Nat × Blk)) : ∀ st, ups st (l ++ m) = ups (ups st l) m := by
  induction l with
  | nil => intro st; rfl
  | cons p l ih => intro st; obtain ⟨b, k⟩ := p; simp only [List.cons_append, ups]; exact ih _

theorem call_sound {C : Orc} (hC : ∀ g sp, C g = some sp → Impl P g sp) (h : Rel w0 I n ⟨env, st⟩ a w η) {d : Nat} {f : V} {u : Value} {xs : List V} {vs : List Value} {z : V} {us : List (Nat × Blk)}
    (hf : RV (cx w0 I st w η) u f) (hx : PW (RV (cx w0 I st w η)) vs xs) (hc : callV C st d f xs = some (z, us)) :
    ∃ g caps, u = .func (.func g) #[] caps ∧ (∃ fn, P.funcs[g]? = some fn ∧ (fn.name == "runtime.NumGoroutine") = false ∧ fn.body.isNone = false) ∧
      Calls P g (vs.toArray ++ caps) w fun e w' => ∃ v η', e = .returned v ∧ Rel w0 I n ⟨env, ups st us⟩ a w' η' ∧ RV (cx w0 I (ups st us) w' η') v z := by
  cases f <;> simp only [callV, reduceCtorEq] at hc
  rename_i g caps
  obtain ⟨sp, hsp, h2⟩ := Option.bind_eq_some_iff.1 hc
  obtain ⟨⟨ys, bs⟩, hys, h3⟩ := Option.bind_eq_some_iff.1 h2
  obtain ⟨r, hr, h4⟩ := Option.bind_eq_some_iff.1 h3
  obtain ⟨cs, rfl, hcs⟩ := hf.fn_inv
  obtain ⟨hfn, himpl⟩ := hC g sp hsp
  refine ⟨g, cs.toArray, rfl, hfn, ?_⟩
  obtain ⟨hargs, hlive⟩ := args_sound h (xs ++ caps) sp.mv ys bs (vs ++ cs) hys (hx.append hcs)
  have harr : (vs.toArray ++ cs.toArray).toList = vs ++ cs := by simp
  refine (himpl ys r hr (vs.toArray ++ cs.toArray) w (Moved η bs) (by rw [harr]; exact hargs)).mono ?_
  rintro e w' ⟨v, rfl, hfr, hres⟩
  have hJlt : ∀ g, Moved η bs g → g < w.heap.size ∧ (w0.heap.size ≤ g ∨ I g) := fun g ⟨b, hb, hg⟩ => ⟨h.lt (hlive b hb) hg, h.old b g (hlive b hb) hg⟩
  have hgone := fun j => ups_gone st bs st j (fun _ => rfl)
  have hheap : ∀ g, g < w.heap.size → w'.heap[g]? ≠ w.heap[g]? → ∃ b, b ∈ bs ∧ (st b).c.live = true ∧ blkOf (η b) = some g := fun g hg hne => by
    by_cases hJ : Moved η bs g
    · obtain ⟨b, hb, hg'⟩ := hJ
      exact ⟨b, hb, hlive b hb, hg'⟩
    · exact absurd (hfr.block g hg hJ) hne
  cases r
  case own sz e l =>
    simp only [Option.some.injEq, Prod.mk.injEq] at h4
    obtain ⟨rfl, rfl⟩ := h4
    obtain ⟨hrow, hblk⟩ := hres
    have hst : ∀ j, ups st ((bs.map fun b => (b, (⟨(st b).ver, Cont.gone⟩ : Blk))) ++ [(d, ⟨(st d).ver + 1, .row sz e l⟩)]) j = if j = d then ⟨(st d).ver + 1, .row sz e l⟩ else ups st (bs.map fun b => (b, (⟨(st b).ver, Cont.gone⟩ : Blk))) j := fun j => by
      rw [ups_append]; simp [ups, upd]
    obtain ⟨h6, hle⟩ := h.step (st' := ups st ((bs.map fun b => (b, (⟨(st b).ver, Cont.gone⟩ : Blk))) ++ [(d, ⟨(st d).ver + 1, .row sz e l⟩)])) (w' := w') (η' := upd η d v) (fun j => j ∈ bs ∨ j = d)
      hfr.os hfr.tape hfr.output hfr.size
      (fun j hj => by
        simp only [not_or] at hj
        rw [hst, if_neg hj.2, (hgone j).2.2 hj.1]
        simp [upd, hj.2])
      (fun j _ => by rw [hst]; split <;> simp_all)
      (fun j hj hl => by
        rw [hst] at hl ⊢
        split at hl
        · rename_i hjd; subst hjd; simp
        · rename_i hjd
          rcases hj with hj | hj
          · rw [(hgone j).2.1 hj] at hl; cases hl
          · exact absurd hj hjd)
      (fun g hg hne => by obtain ⟨b, h1, h2, h3⟩ := hheap g hg hne; exact ⟨b, .inl h1, h2, h3⟩)
      (fun j g hj hl hg => by
        rw [hst] at hl
        split at hl
        · rename_i hjd
          subst hjd
          simp [upd] at hg
          rcases hblk g hg with h1 | ⟨b, hb, h1⟩
          · exact .inl h1
          · exact .inr ⟨b, .inl hb, hlive b hb, h1⟩
        · rename_i hjd
          rcases hj with hj | hj
          · rw [(hgone j).2.1 hj] at hl; cases hl
          · exact absurd hj hjd)
      (fun j j' g hj hj' hl hl' _ _ => by
        have key : ∀ q, (q ∈ bs ∨ q = d) → (ups st ((bs.map fun b => (b, (⟨(st b).ver, Cont.gone⟩ : Blk))) ++ [(d, ⟨(st d).ver + 1, .row sz e l⟩)]) q).c.live = true → q = d := fun q hq hql => by
          rw [hst] at hql
          split at hql
          · assumption
          · rename_i hqd
            rcases hq with hq | hq
            · rw [(hgone q).2.1 hq] at hql; cases hql
            · exact hq
        rw [key j hj hl, key j' hj' hl'])
      (fun hle j hj hl => by
        have hjd : j = d := by
          rw [hst] at hl
          split at hl
          · assumption
          · rename_i hqd
            rcases hj with hj | hj
            · rw [(hgone j).2.1 hj] at hl; cases hl
            · exact hj
        subst hjd
        rw [hst, if_pos rfl]
        simp only [upd, if_pos]
        obtain ⟨us0, ho, hu0, hp0, h10⟩ := hrow
        refine ⟨us0, ho, hu0, hp0.imp fun u x hx => hx.refresh rfl fun g hg hf => ⟨?_, ?_⟩, h10⟩
        · rintro ⟨b', hb', hg'⟩
          rw [hst] at hb'
          split at hb'
          · rename_i hbd
            subst hbd
            simp [upd] at hg'
            exact hg hg'
          · rename_i hbd
            by_cases hbb : b' ∈ bs
            · rw [(hgone b').2.1 hbb] at hb'; cases hb'
            · rw [(hgone b').2.2 hbb] at hb'
              simp [upd, hbd] at hg'
              rcases hf with hf | ⟨b1, hb1, hg1⟩
              · have := h.lt hb' hg'; omega
              · exact hbb (h.sep b1 b' g (hlive b1 hb1) hb' hg1 hg' ▸ hb1)
        · rcases hf with hf | hf
          · exact .inl (Nat.le_trans h.fr.size hf)
          · exact (hJlt g hf).2)
    refine ⟨v, _, rfl, h6, .sw d _ _ ?_ ?_ fun v0 hv0 => ?_⟩
    · obtain ⟨us0, ho, _⟩ := hrow
      rcases ho.2 with ⟨h', _⟩ | ⟨_, _, _, h', _⟩ <;> rw [h'] <;> rfl
    · simp only [cx, hst]; simp
    · simp only [cx, hst] at hv0
      simp [upd, Cont.live] at hv0
      exact hv0
  all_goals
    simp only [Option.some.injEq, Prod.mk.injEq] at h4
    obtain ⟨rfl, rfl⟩ := h4
    obtain ⟨h6, hle⟩ := h.step (st' := ups st (bs.map fun b => (b, (⟨(st b).ver, Cont.gone⟩ : Blk)))) (w' := w') (η' := η) (fun j => j ∈ bs)
      hfr.os hfr.tape hfr.output hfr.size (fun j hj => ⟨(hgone j).2.2 hj, rfl⟩) (fun j _ => by rw [(hgone j).1]; exact Nat.le_refl _)
      (fun j hj hl => by rw [(hgone j).2.1 hj] at hl; cases hl)
      hheap
      (fun j g hj hl _ => by rw [(hgone j).2.1 hj] at hl; cases hl)
      (fun j j' g hj _ hl _ _ _ => by rw [(hgone j).2.1 hj] at hl; cases hl)
      (fun hle j hj hl => by rw [(hgone j).2.1 hj] at hl; cases hl)
    refine ⟨v, η, rfl, h6, RC.rvt (k := true) ?_ rfl⟩
    refine RC.refresh (show RC w' (fun _ => False) (Fresh w (Moved η bs)) true v _ from hres) rfl fun g _ hf => ⟨?_, ?_⟩
    · rintro ⟨b', hb', hg'⟩
      by_cases hbb : b' ∈ bs
      · rw [(hgone b').2.1 hbb] at hb'; cases hb'
      · rw [(hgone b').2.2 hbb] at hb'
        rcases hf with hf | ⟨b1, hb1, hg1⟩
        · have := h.lt hb' hg'; omega
        · exact hbb (h.sep b1 b' g (hlive b1 hb1) hb' hg1 hg' ▸ hb1)
    · rcases hf with hf | hf
      · exact .inl (Nat.le_trans h.fr.size hf)
      · exact (hJlt g hf).2
end

end Go.Proofs.Ytegalldldcaocaa
