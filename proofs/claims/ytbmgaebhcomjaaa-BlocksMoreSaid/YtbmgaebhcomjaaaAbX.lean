/-
Calls: what a function is known to answer serves the one that calls it. No condition.
-/
import Derived.Test.YtbmgaebhcomjaaaAbW
namespace Go.Proofs.Ytbmgaebhcomjaaa
set_option linter.unusedSimpArgs false
set_option linter.unusedVariables false

def Fresh (w : World) (J : Nat → Prop) : Nat → Prop := fun g => w.heap.size ≤ g ∨ J g

/-- a cell of a box that is handed over, or back -/
def CellR (w : World) (u : Value) : V → Prop
  | .s v => u = v
  | .own sz e l => l.all V.scal = true ∧ RowR w (fun _ => False) (fun _ => True) u sz e l
  | _ => False

/-- a box that is handed over, or back, with the rows that hang in it; D: where its blocks may lie -/
def BoxR (w : World) (D : Nat → Prop) (v : Value) (cs : List V) : Prop :=
  ∃ g o cur e us, v = .pointer (some ⟨g, o, none⟩) ∧ w.heap[g]? = some (.cells cur e (0, 0)) ∧ D g ∧ us = (cur.toList.drop o).take cs.length ∧ PW (CellR w) us cs ∧
    (∀ (j : Nat) (u : Value) (sz e : Nat) (l : List V) (g' : Nat), us[j]? = some u → cs[j]? = some (V.own sz e l) → blkOf u = some g' → D g' ∧ g' ≠ g) ∧
    (∀ (i j : Nat) (u u' : Value) (sz e : Nat) (l : List V) (sz' e' : Nat) (l' : List V) (g' : Nat), us[i]? = some u → us[j]? = some u' → cs[i]? = some (V.own sz e l) → cs[j]? = some (V.own sz' e' l') → blkOf u = some g' → blkOf u' = some g' → i = j)

/-- an argument as the called function has it -/
def ArgR (w : World) (J : Nat → Prop) (u : Value) : V → Prop
  | .own sz e l => RowR w J (Fresh w J) u sz e l ∧ ∀ g, blkOf u = some g → J g
  | .obx cs => BoxR w J u cs
  | x => RC w J (Fresh w J) false u x

def V.isOwn : V → Bool
  | .own .. => true
  | .obx _ => true
  | _ => false

structure Args (w : World) (J : Nat → Prop) (vs : List Value) (xs : List V) : Prop where
  pw : PW (ArgR w J) vs xs
  one : ∀ (i j : Nat) (x y : V), xs[i]? = some x → xs[j]? = some y → x.isOwn = true → y.isOwn = true → i = j
  small : ∀ (i : Nat) (x : V), xs[i]? = some x → x.isOwn = true → i < 1000 ∧ ∀ cs, x = .obx cs → cs.length ≤ 1000

/-- a result as its caller has it -/
def ResR (w : World) (J : Nat → Prop) (w' : World) (v : Value) : V → Prop
  | .own sz e l => RowR w' (fun g => blkOf v = some g) (Fresh w J) v sz e l ∧ ∀ g, blkOf v = some g → Fresh w J g
  | .obx cs => BoxR w' (Fresh w J) v cs
  | r => RC w' (fun _ => False) (Fresh w J) true v r

/-- what an argument holds behind the call -/
def OutR (w : World) (J : Nat → Prop) (w' : World) (u : Value) : V → Prop
  | .own sz e l => CellR w' u (.own sz e l) ∧ ∀ g, blkOf u = some g → Fresh w J g
  | .obx cs => BoxR w' (Fresh w J) u cs
  | _ => False

def PostR (w : World) (J : Nat → Prop) (w' : World) (vs : Array Value) (v : Value) : V → Prop
  | .io t r out => r.scalT = true ∧ RC w' (fun _ => False) (Fresh w J) true v r ∧ ∃ u, vs[t]? = some u ∧ OutR w J w' u out
  | r => ResR w J w' v r

/-- the function does what is known of it -/
def Impl (P : Program) (g : Nat) (sp : Spec) : Prop :=
  (∃ fn, P.funcs[g]? = some fn ∧ (fn.name == "runtime.NumGoroutine") = false ∧ fn.body.isNone = false) ∧
  ∀ xs r, sp.fn xs = some r → ∀ (vs : Array Value) (w : World) (J : Nat → Prop), Args w J vs.toList xs →
    Calls P g vs w fun e w' => ∃ v, e = .returned v ∧ Fr w J w' ∧ PostR w J w' vs v r

section
variable {P : Program} {w0 w w' : World} {I : Ow} {n : Nat} {s : S} {env : Nat → V} {st : Nat → Blk} {a : Act} {η : Nat → Value}

theorem Rel.lt (h : Rel w0 I n s a w η) {b g : Nat} (hb : (s.st b).c.live = true) (hg : blkOf (η b) = some g) : g < w.heap.size := (h.blk b hb).lt hb hg

theorem mapM_PW {R R' : Value → V → Prop} {f : V → Option V} : ∀ {us : List Value} {l l' : List V}, l.mapM f = some l' → PW R us l → (∀ u x y, x ∈ l → R u x → f x = some y → R' u y) → PW R' us l'
  | us, [], l', h, hp, _ => by
    simp at h
    subst h
    rw [hp.nil_r]; exact PW.nil
  | us, x :: l, l', h, hp, hf => by
    obtain ⟨u, us', rfl, h1, h2⟩ := hp.uncons
    simp only [List.mapM_cons, Option.bind_eq_bind, Option.pure_def] at h
    obtain ⟨y, hy, h3⟩ := Option.bind_eq_some_iff.1 h
    obtain ⟨l2, hl2, h4⟩ := Option.bind_eq_some_iff.1 h3
    simp only [Option.some.injEq] at h4
    subst h4
    exact PW.cons (hf u x y (by simp) h1 hy) (mapM_PW hl2 h2 fun u x y hx => hf u x y (by simp [hx]))

/-- these blocks are handed over -/
def Moved (η : Nat → Value) (bs : List Nat) : Nat → Prop := fun g => ∃ b ∈ bs, blkOf (η b) = some g

theorem exp_sound (h : Rel w0 I n s a w η) {bs : List Nat} (hbs : ∀ b ∈ bs, (s.st b).c.live = true) {F : Nat → Prop} : ∀ (k : Nat) (x y : V) (u : Value), expV s.st k x = some y → (bs = [] ∨ apartV s.st bs k x = true) → RV (cx w0 I s.st w η) u x → RC w (Moved η bs) F false u y
  | 0, x, y, u, hx, _, _ => by simp [expV] at hx
  | k + 1, x, y, u, hx, ha, hu => by
    have hown : ∀ g, Moved η bs g → (cx w0 I s.st w η).own g := fun g ⟨b, hb, hg⟩ => ⟨b, hbs b hb, hg⟩
    have hmono : ∀ {k v x}, RC w (cx w0 I s.st w η).own (cx w0 I s.st w η).fresh k v x → RC w (Moved η bs) F false v x := fun {k v x} hr => (hr.mono (own' := Moved η bs) fun g hg _ => ⟨rfl, fun hm => hg (hown g hm)⟩).weak
    have hnot : ∀ b g, (s.st b).c.live = true → (bs = [] ∨ (!(bs.contains b)) = true) → blkOf (η b) = some g → ¬ Moved η bs g := fun b g hb hnb hg ⟨b', hb', hg'⟩ => by
      have hbb := h.sep b b' g hb (hbs b' hb') hg hg'
      subst hbb
      rcases hnb with hnb | hnb
      · rw [hnb] at hb'; simp at hb'
      · simp at hnb; exact hnb hb'
    have hal : ∀ (l : List V), (bs = [] ∨ l.all (apartV s.st bs k) = true) → ∀ x ∈ l, bs = [] ∨ apartV s.st bs k x = true := fun l hl x hx => by
      rcases hl with hl | hl
      · exact .inl hl
      · exact .inr (List.all_eq_true.1 hl x hx)
    cases x <;> simp only [expV, reduceCtorEq] at hx <;> simp only [apartV] at ha
    case s v =>
      simp only [Option.some.injEq] at hx
      subst hx
      rw [hu.s_inv]; exact .s _ _
    case agg l =>
      obtain ⟨l', hl', rfl⟩ := Option.map_eq_some_iff.1 hx
      obtain ⟨us, rfl, hp⟩ := hu.agg_inv
      exact rc_agg _ _ (mapM_PW hl' hp fun u x y hm hr hf => exp_sound h hbs k x y u hf (hal l ha x hm) hr)
    case tup l =>
      obtain ⟨l', hl', rfl⟩ := Option.map_eq_some_iff.1 hx
      obtain ⟨us, rfl, hp⟩ := hu.tup_inv
      have := mapM_PW (R' := RC w (Moved η bs) F false) hl' hp fun u x y hm hr hf => exp_sound h hbs k x y u hf (hal l ha x hm) hr
      exact .tup _ us l' this.1 this.2
    case fn f l =>
      obtain ⟨l', hl', rfl⟩ := Option.map_eq_some_iff.1 hx
      obtain ⟨us, rfl, hp⟩ := hu.fn_inv
      have := mapM_PW (R' := RC w (Moved η bs) F false) hl' hp fun u x y hm hr hf => exp_sound h hbs k x y u hf (hal l ha x hm) hr
      exact .fn _ f us l' this.1 this.2
    case lst fr sz l =>
      simp only [Option.some.injEq] at hx
      subst hx
      exact (hmono hu.lst_inv).unfr
    case ept l =>
      simp only [Option.some.injEq] at hx
      subst hx
      exact hmono hu.ept_inv
    case sw b ver len =>
      obtain ⟨⟨sz, e, l⟩, hb, rfl⟩ := Option.map_eq_some_iff.1 hx
      obtain ⟨_, ⟨l0, hc0⟩, hblk, hrow⟩ := own_sound h hu (b := b) (ver := ver) (sz := sz) (e := e) (l := l) (by simp [ownRow, hb])
      obtain ⟨A, cp, us, rfl, h1, h2, h3, h4, h5⟩ := hrow.elems
      have h3' := h3.imp fun u x hr => hmono hr
      refine .lst _ false sz l A cp us h1 h2 h3'.1 h3'.2 h4 ?_
      rcases h5 with h5 | ⟨g, o, rfl, h7⟩
      · exact .inl h5
      · exact .inr ⟨g, o, rfl, hnot b g (by rw [hc0]; rfl) ha (hblk.symm.trans rfl), fun h => (by cases h), h7⟩
    case sp b ver sz off len =>
      obtain ⟨⟨sz', e, l⟩, hb, h2⟩ := Option.bind_eq_some_iff.1 hx
      simp only at h2
      split at h2
      case isFalse => cases h2
      rename_i hc
      simp only [Option.some.injEq] at h2
      subst h2
      obtain ⟨_, ⟨l0, hc0⟩, hblk, hrow⟩ := own_sound h hu (b := b) (ver := ver) (sz := sz') (e := e) (l := (l.drop off).take len) (by simp [ownRow, hb, hc])
      obtain ⟨A, cp, us, rfl, h1, h2, h3, h4, h5⟩ := hrow.elems
      have h3' := h3.imp fun u x hr => hmono hr
      rw [hc.1] at h2
      refine .lst _ false sz _ A cp us h1 h2 h3'.1 h3'.2 h4 ?_
      rcases h5 with h5 | ⟨g, o, rfl, h7⟩
      · exact .inl h5
      · exact .inr ⟨g, o, rfl, hnot b g (by rw [hc0]; rfl) ha (hblk.symm.trans rfl), fun h => (by cases h), h7⟩
    case bp b ver off len =>
      obtain ⟨cs, hb, h2⟩ := Option.bind_eq_some_iff.1 hx
      split at h2
      case isFalse => cases h2
      rename_i hc
      obtain ⟨hfit, hsc⟩ := hc
      simp only [Option.some.injEq] at h2
      subst h2
      obtain ⟨_, hcont, hl, g, o, cur, e, hη, hg, hp⟩ := look_box h hb
      obtain ⟨⟨A, cp, rfl, hlc⟩, _, hpo⟩ := hu.bp_inv
      have hll : ((cs.drop off).take len).length = len := by rw [List.length_take, List.length_drop]; omega
      have hs1 : ∀ x ∈ (cs.drop off).take len, ∃ v, x = .s v ∧ v.oneCell' = true := fun x hx => by
        have := List.all_eq_true.1 hsc x hx
        unfold V.scal1 at this
        split at this
        · exact ⟨_, rfl, this⟩
        · cases this
      have hone : ∀ x ∈ (cs.drop off).take len, x.cells = [x] := fun x hx => by
        obtain ⟨v, rfl, hv⟩ := hs1 x hx
        exact one_cells0 (x := .s v) (by simpa [V.one] using hv)
      have hfl := flat_s _ hone
      have hpp := (hp.drop off).take len
      have hp2 : PW (RC w (Moved η bs) F false) ((((cur.toList.drop o).take cs.length).drop off).take len) ((cs.drop off).take len) := hpp.impm fun u x hx hr => by
        obtain ⟨v, rfl, hv⟩ := hs1 x hx
        rw [hr.s_inv]; exact .s _ _
      have hr := RC.lst (w := w) (own := Moved η bs) (fresh := F) false false 1 ((cs.drop off).take len) A cp ((((cur.toList.drop o).take cs.length).drop off).take len) (by rw [hll]; exact hlc) (fun x hx => by rw [hone x hx]; rfl)
        (by rw [hfl]; exact hp2.1) (by rw [hfl]; exact hp2.2) (fun u hu => by
          obtain ⟨i, hi⟩ := List.getElem?_of_mem hu
          obtain ⟨x, hx, hr⟩ := hpp.getl hi
          obtain ⟨v, rfl, hv⟩ := hs1 x (List.mem_of_getElem? hx)
          rw [hr.s_inv]; exact hv) (by
          rcases hpo _ hl with h0 | ⟨g', o', cp', h1, h2⟩
          · left
            subst h0
            simp
          · rw [hη] at h1
            cases h1
            cases h2
            refine .inr ⟨g, _, rfl, hnot b g (by rw [hcont]; rfl) ha (by rw [hη]; rfl), fun h => (by cases h), fun j u hj => ?_⟩
            simp only [List.getElem?_take, List.getElem?_drop] at hj
            split at hj
            · split at hj
              · simp only [World.cell?, hg]
                simpa [Nat.add_assoc] using hj
              · cases hj
            · cases hj)
      rw [hll] at hr
      exact hr
    case ptr b ver off =>
      obtain ⟨cs, hb, h2⟩ := Option.bind_eq_some_iff.1 hx
      obtain ⟨l', hl', rfl⟩ := Option.map_eq_some_iff.1 h2
      obtain ⟨_, hcont, hl, g, o, cur, e, hη, hg, hp⟩ := look_box h hb
      obtain ⟨_, _, hp2⟩ := hu.ptr_inv
      obtain ⟨g', o', h1, rfl⟩ := hp2 _ hl
      rw [hη] at h1
      simp only [Value.pointer.injEq, Option.some.injEq, Addr.mk.injEq] at h1
      obtain ⟨rfl, rfl, _⟩ := h1
      have ha2 : bs = [] ∨ (!(bs.contains b)) = true := by
        rcases ha with ha | ha
        · exact .inl ha
        · simp only [Bool.and_eq_true] at ha; exact .inr ha.1
      have ha3 : bs = [] ∨ cs.all (apartV s.st bs k) = true := by
        rcases ha with ha | ha
        · exact .inl ha
        · simp only [Bool.and_eq_true, hcont] at ha; exact .inr ha.2
      have hpw := mapM_PW (R' := RC w (Moved η bs) F false) hl' (hp.drop off) fun u x y hm hr hf => exp_sound h hbs k x y u hf (hal cs ha3 x (List.mem_of_mem_drop hm)) hr
      refine .ept _ l' g (o + off) hpw.1 hpw.2 (.inr ⟨hnot b g (by rw [hcont]; rfl) ha2 (by rw [hη]; rfl), fun j u hj => ?_⟩)
      simp only [List.getElem?_drop, List.getElem?_take] at hj
      split at hj
      · simp only [World.cell?, hg]
        simpa [Nat.add_assoc] using hj
      · cases hj

theorem exp_notown {st : Nat → Blk} : ∀ (k : Nat) (x y : V), expV st k x = some y → y.isOwn = false := by
  intro k x y h
  cases k with
  | zero => simp [expV] at h
  | succ k =>
    cases x <;> simp only [expV, reduceCtorEq, Option.some.injEq] at h
    case s => subst h; rfl
    case lst => subst h; rfl
    case ept => subst h; rfl
    case agg => obtain ⟨_, _, rfl⟩ := Option.map_eq_some_iff.1 h; rfl
    case tup => obtain ⟨_, _, rfl⟩ := Option.map_eq_some_iff.1 h; rfl
    case fn => obtain ⟨_, _, rfl⟩ := Option.map_eq_some_iff.1 h; rfl
    case sw => obtain ⟨⟨_, _, _⟩, _, rfl⟩ := Option.map_eq_some_iff.1 h; rfl
    case sp =>
      obtain ⟨⟨_, _, _⟩, _, h⟩ := Option.bind_eq_some_iff.1 h
      simp only at h
      split at h <;> simp at h
      subst h; rfl
    case bp =>
      obtain ⟨_, _, h⟩ := Option.bind_eq_some_iff.1 h
      split at h <;> simp at h
      subst h; rfl
    case ptr =>
      obtain ⟨_, _, h⟩ := Option.bind_eq_some_iff.1 h
      obtain ⟨_, _, rfl⟩ := Option.map_eq_some_iff.1 h; rfl

theorem RC.scal {w w' : World} {own fresh own' fresh' : Nat → Prop} {k k' : Bool} {v : Value} {x : V} (hx : x.scal = true) (h : RC w own fresh k v x) : RC w' own' fresh' k' v x := by
  cases x <;> simp only [V.scal, reduceCtorEq, Bool.false_eq_true] at hx
  case s u => cases h; exact .s _ _
  case agg l =>
    cases h with
    | agg _ us _ hl he =>
      refine .agg _ us l hl fun i u y hu hy => ?_
      have := List.all_eq_true.1 hx y (List.mem_of_getElem? hy)
      split at this
      · have := he i u _ hu hy
        cases this
        exact .s _ _
      · cases this

theorem ArgR.of {w : World} {J : Nat → Prop} {u : Value} {x : V} (h : RC w J (Fresh w J) false u x) (hx : x.isOwn = false) : ArgR w J u x := by
  cases x <;> first | exact h | (simp [V.isOwn] at hx)

theorem RowR.scal {w w' : World} {own fresh own' fresh' : Nat → Prop} {v : Value} {sz e : Nat} {l : List V} (hl : l.all V.scal = true) (h : RowR w own fresh v sz e l) (hs : ∀ g, blkOf v = some g → w'.heap[g]? = w.heap[g]?) : RowR w' own' fresh' v sz e l := by
  obtain ⟨us, ho, hu, hp, h1⟩ := h
  exact ⟨us, ho.same hs, hu, scal_RC hl hp, h1⟩

theorem movC_sound (h : Rel w0 I n s a w η) : ∀ (cs cs' : List V) (bs : List Nat) (us : List Value), movC s.st cs = some (cs', bs) → PW (RV (cx w0 I s.st w η)) us cs →
    PW (CellR w) us cs' ∧ (∀ b ∈ bs, (s.st b).c.live = true) ∧
    (∀ (j : Nat) (u : Value) (sz e : Nat) (l : List V) (g : Nat), us[j]? = some u → cs'[j]? = some (V.own sz e l) → blkOf u = some g → ∃ b ∈ bs, blkOf (η b) = some g) ∧
    (bs.Nodup → ∀ (i j : Nat) (u u' : Value) (sz e : Nat) (l : List V) (sz' e' : Nat) (l' : List V) (g : Nat), us[i]? = some u → us[j]? = some u' → cs'[i]? = some (V.own sz e l) → cs'[j]? = some (V.own sz' e' l') → blkOf u = some g → blkOf u' = some g → i = j)
  | [], cs', bs, us, hm, hp => by
    simp only [movC, Option.some.injEq, Prod.mk.injEq] at hm
    obtain ⟨rfl, rfl⟩ := hm
    rw [hp.nil_r]
    exact ⟨PW.nil, fun b hb => by simp at hb, fun j u sz e l g hj => by simp at hj, fun _ i j u u' sz e l sz' e' l' g hi => by simp at hi⟩
  | c :: r, cs', bs, us, hm, hp => by
    obtain ⟨u, us', rfl, h1, h2⟩ := hp.uncons
    simp only [movC] at hm
    obtain ⟨⟨cs2, bs2⟩, hr, hm2⟩ := Option.bind_eq_some_iff.1 hm
    obtain ⟨i1, i2, i3, i4⟩ := movC_sound h r cs2 bs2 us' hr h2
    simp only at hm2
    split at hm2
    · simp only [Option.some.injEq, Prod.mk.injEq] at hm2
      obtain ⟨rfl, rfl⟩ := hm2
      refine ⟨PW.cons h1.s_inv i1, i2, fun j u sz e l g hj hc hg => ?_, fun hn i j u u' sz e l sz' e' l' g hi hj hci hcj hg hg' => ?_⟩
      · cases j with
        | zero => simp at hc
        | succ j => exact i3 j u sz e l g (by simpa using hj) (by simpa using hc) hg
      · cases i with
        | zero => simp at hci
        | succ i => cases j with
          | zero => simp at hcj
          | succ j => rw [i4 hn i j u u' sz e l sz' e' l' g (by simpa using hi) (by simpa using hj) (by simpa using hci) (by simpa using hcj) hg hg']
    · rename_i c _
      obtain ⟨⟨b, ver, sz, e, l⟩, ho, hm3⟩ := Option.bind_eq_some_iff.1 hm2
      simp only at hm3
      split at hm3
      case isFalse => cases hm3
      rename_i hsc
      simp only [Option.some.injEq, Prod.mk.injEq] at hm3
      obtain ⟨rfl, rfl⟩ := hm3
      obtain ⟨_, ⟨l0, hc0⟩, hblk, hrow⟩ := own_sound h h1 ho
      have hbl : (s.st b).c.live = true := by rw [hc0]; rfl
      refine ⟨PW.cons ⟨hsc, hrow.scal hsc fun _ _ => rfl⟩ i1, fun b' hb' => ?_, fun j u' sz' e' l' g hj hc hg => ?_, fun hn i j v v' sz1 e1 l1 sz2 e2 l2 g hi hj hci hcj hg hg' => ?_⟩
      · rcases List.mem_cons.1 hb' with rfl | hb'
        · exact hbl
        · exact i2 b' hb'
      · cases j with
        | zero => simp at hj; subst hj; exact ⟨b, by simp, hblk ▸ hg⟩
        | succ j =>
          obtain ⟨b', hb', hg'⟩ := i3 j u' sz' e' l' g (by simpa using hj) (by simpa using hc) hg
          exact ⟨b', by simp [hb'], hg'⟩
      · have hn2 := List.nodup_cons.1 hn
        have clash : ∀ (j : Nat) (v : Value) (sz e : Nat) (l : List V) (g : Nat), us'[j]? = some v → cs2[j]? = some (V.own sz e l) → blkOf v = some g → blkOf u = some g → False := fun j v sz e l g hj hc hg hgu => by
          obtain ⟨b', hb', hg'⟩ := i3 j v sz e l g hj hc hg
          have := h.sep b b' g hbl (i2 b' hb') (hblk ▸ hgu) hg'
          subst this
          exact hn2.1 hb'
        cases i with
        | zero =>
          simp at hi
          subst hi
          cases j with
          | zero => rfl
          | succ j => exact (clash j v' sz2 e2 l2 g (by simpa using hj) (by simpa using hcj) hg' hg).elim
        | succ i => cases j with
          | zero =>
            simp at hj
            subst hj
            exact (clash i v sz1 e1 l1 g (by simpa using hi) (by simpa using hci) hg hg').elim
          | succ j => rw [i4 hn2.2 i j v v' sz1 e1 l1 sz2 e2 l2 g (by simpa using hi) (by simpa using hj) (by simpa using hci) (by simpa using hcj) hg hg']

theorem box_sound (h : Rel w0 I n s a w η) {b ver : Nat} {u : Value} {cs cs' : List V} {bs : List Nat} (hu : RV (cx w0 I s.st w η) u (.ptr b ver 0)) (hb : boxAt s.st b ver = some cs) (hm : movC s.st cs = some (cs', bs)) (hn : (b :: bs).Nodup)
    {D : Nat → Prop} (hD : ∀ q ∈ b :: bs, ∀ g, (s.st q).c.live = true → blkOf (η q) = some g → D g) : BoxR w D u cs' ∧ (∀ q ∈ b :: bs, (s.st q).c.live = true) ∧ u = η b := by
  obtain ⟨_, hcont, hl, g, o, cur, e, hη, hg, hp⟩ := look_box h hb
  obtain ⟨_, _, hpo⟩ := hu.ptr_inv
  obtain ⟨g', o', h1, rfl⟩ := hpo _ hl
  rw [hη] at h1
  cases h1
  have hbl : (s.st b).c.live = true := by rw [hcont]; rfl
  have hlen : cs'.length = cs.length := by
    have := (movC_sound h cs cs' bs _ hm hp).1.1
    rw [← this, hp.1]
  obtain ⟨i1, i2, i3, i4⟩ := movC_sound h cs cs' bs _ hm hp
  have hn2 := List.nodup_cons.1 hn
  refine ⟨⟨g, o, cur, e, _, rfl, hg, hD b (by simp) g hbl (by rw [hη]; rfl), by rw [hlen], i1, fun j u sz e l g' hj hc hg' => ?_, i4 hn2.2⟩, fun q hq => ?_, by rw [hη]; rfl⟩
  · obtain ⟨q, hq, hgq⟩ := i3 j u sz e l g' hj hc hg'
    refine ⟨hD q (by simp [hq]) g' (i2 q hq) hgq, fun heq => ?_⟩
    subst heq
    have := h.sep q b g' (i2 q hq) hbl hgq (by rw [hη]; rfl)
    subst this
    exact hn2.1 hq
  · rcases List.mem_cons.1 hq with rfl | hq
    · exact hbl
    · exact i2 q hq

theorem movV_sound (h : Rel w0 I n s a w η) {x y : V} {bs : List Nat} {u : Value} (hm : movV s.st x = some (y, bs)) (hu : RV (cx w0 I s.st w η) u x) : ArgR w (Moved η bs) u y ∧ (∀ b ∈ bs, (s.st b).c.live = true) ∧ y.isOwn = true ∧ ∀ cs, y = .obx cs → cs.length ≤ 1000 := by
  unfold movV at hm
  split at hm
  · rename_i b ver
    obtain ⟨cs, hb, h2⟩ := Option.bind_eq_some_iff.1 hm
    obtain ⟨⟨cs', bs'⟩, hc, h3⟩ := Option.bind_eq_some_iff.1 h2
    simp only at h3
    split at h3
    case isFalse => cases h3
    rename_i hn
    obtain ⟨hn, hsm⟩ := hn
    simp only [Option.some.injEq, Prod.mk.injEq] at h3
    obtain ⟨rfl, rfl⟩ := h3
    obtain ⟨h4, h5, _⟩ := box_sound h hu hb hc hn (D := Moved η (b :: bs')) fun q hq g _ hg => ⟨q, hq, hg⟩
    exact ⟨h4, h5, rfl, fun cs hcs => by cases hcs; exact hsm⟩
  · obtain ⟨⟨b, ver, sz, e, l⟩, ho, h2⟩ := Option.bind_eq_some_iff.1 hm
    simp only at h2
    split at h2
    case isFalse => cases h2
    rename_i hsc
    simp only [Option.some.injEq, Prod.mk.injEq] at h2
    obtain ⟨rfl, rfl⟩ := h2
    obtain ⟨_, ⟨l0, hc0⟩, hblk, hrow⟩ := own_sound h hu ho
    refine ⟨⟨hrow.scal hsc fun _ _ => rfl, fun g hg => ⟨b, by simp, hblk ▸ hg⟩⟩, fun b' hb' => ?_, rfl, fun cs hcs => by cases hcs⟩
    simp at hb'
    subst hb'
    rw [hc0]; rfl

theorem args_live (h : Rel w0 I n s a w η) : ∀ (xs : List V) (mv : List Bool) (ys : List V) (bs : List Nat) (us : List Value), argsV s.st mv xs = some (ys, bs) → PW (RV (cx w0 I s.st w η)) us xs → (∀ b ∈ bs, (s.st b).c.live = true)
  | [], mv, ys, bs, us, hx, hp => by
    simp only [argsV, Option.some.injEq, Prod.mk.injEq] at hx
    obtain ⟨rfl, rfl⟩ := hx
    exact fun b hb => by simp at hb
  | x :: xs, mv, ys, bs, us, hx, hp => by
    obtain ⟨u, us', rfl, h1, h2⟩ := hp.uncons
    simp only [argsV] at hx
    obtain ⟨⟨ys', bs'⟩, ht, hx2⟩ := Option.bind_eq_some_iff.1 hx
    have ih := args_live h xs mv.tail ys' bs' us' ht h2
    simp only at hx2
    split at hx2
    · obtain ⟨⟨y, b⟩, hy, hx3⟩ := Option.bind_eq_some_iff.1 hx2
      simp only at hx3
      split at hx3
      case isFalse => cases hx3
      simp only [Option.some.injEq, Prod.mk.injEq] at hx3
      obtain ⟨rfl, rfl⟩ := hx3
      exact (movV_sound h hy h1).2.1
    · obtain ⟨y, hy, hx3⟩ := Option.bind_eq_some_iff.1 hx2
      simp only [Option.some.injEq, Prod.mk.injEq] at hx3
      obtain ⟨rfl, rfl⟩ := hx3
      exact ih

theorem args_none {st : Nat → Blk} : ∀ (xs : List V) (mv : List Bool) (ys : List V), argsV st mv xs = some (ys, []) → ∀ y ∈ ys, y.isOwn = false
  | [], mv, ys, hx => by
    simp only [argsV, Option.some.injEq, Prod.mk.injEq] at hx
    obtain ⟨rfl, _⟩ := hx
    exact fun y hy => by simp at hy
  | x :: xs, mv, ys, hx => by
    simp only [argsV] at hx
    obtain ⟨⟨ys', bs'⟩, ht, hx2⟩ := Option.bind_eq_some_iff.1 hx
    simp only at hx2
    split at hx2
    · obtain ⟨⟨y, b⟩, hy, hx3⟩ := Option.bind_eq_some_iff.1 hx2
      simp only at hx3
      split at hx3
      case isFalse => cases hx3
      simp only [Option.some.injEq, Prod.mk.injEq] at hx3
      obtain ⟨rfl, rfl⟩ := hx3
      exfalso
      unfold movV at hy
      split at hy
      · obtain ⟨cs, hb, h2⟩ := Option.bind_eq_some_iff.1 hy
        obtain ⟨⟨cs', bs'⟩, hc, h3⟩ := Option.bind_eq_some_iff.1 h2
        simp only at h3
        split at h3 <;> simp at h3
      · obtain ⟨⟨b, ver, sz, e, l⟩, ho, h2⟩ := Option.bind_eq_some_iff.1 hy
        simp only at h2
        split at h2 <;> simp at h2
    · obtain ⟨y, hy, hx3⟩ := Option.bind_eq_some_iff.1 hx2
      simp only [Option.some.injEq, Prod.mk.injEq] at hx3
      obtain ⟨rfl, rfl⟩ := hx3
      have ih := args_none xs mv.tail ys' ht
      intro z hz
      rcases List.mem_cons.1 hz with rfl | hz
      · exact exp_notown _ _ _ hy
      · exact ih z hz

theorem args_sound (h : Rel w0 I n s a w η) {B : List Nat} (hB : ∀ b ∈ B, (s.st b).c.live = true) : ∀ (xs : List V) (mv : List Bool) (ys : List V) (bs : List Nat) (us : List Value), argsV s.st mv xs = some (ys, bs) → (bs = [] ∨ bs = B) → (B = [] ∨ (argsApart s.st B mv xs = true ∧ ys.length ≤ 1000)) → PW (RV (cx w0 I s.st w η)) us xs →
    Args w (Moved η B) us ys
  | [], mv, ys, bs, us, hx, _, _, hp => by
    simp only [argsV, Option.some.injEq, Prod.mk.injEq] at hx
    obtain ⟨rfl, rfl⟩ := hx
    rw [hp.nil_r]
    exact ⟨PW.nil, fun i j x y hi => by simp at hi, fun i x hi => by simp at hi⟩
  | x :: xs, mv, ys, bs, us, hx, hbB, hap, hp => by
    obtain ⟨u, us', rfl, h1, h2⟩ := hp.uncons
    simp only [argsV] at hx
    obtain ⟨⟨ys', bs'⟩, ht, hx2⟩ := Option.bind_eq_some_iff.1 hx
    have hap2 : ys.length = ys'.length + 1 → B = [] ∨ (argsApart s.st B mv.tail xs = true ∧ ys'.length ≤ 1000) := fun hl => by
      rcases hap with hap | hap
      · exact .inl hap
      · simp only [argsApart, Bool.and_eq_true] at hap; exact .inr ⟨hap.1.1, by omega⟩
    simp only at hx2
    split at hx2
    · obtain ⟨⟨y, b⟩, hy, hx3⟩ := Option.bind_eq_some_iff.1 hx2
      simp only at hx3
      split at hx3
      case isFalse => cases hx3
      rename_i hb0
      subst hb0
      simp only [Option.some.injEq, Prod.mk.injEq] at hx3
      obtain ⟨rfl, rfl⟩ := hx3
      have ih := args_sound h hB xs mv.tail ys' [] us' ht (.inl rfl) (hap2 rfl) h2
      have hno := args_none xs mv.tail ys' ht
      obtain ⟨h3, _, h4, h5⟩ := movV_sound h hy h1
      have hbB' : b = B := by
        rcases hbB with hbB | hbB
        · subst hbB
          exfalso
          unfold movV at hy
          split at hy
          · obtain ⟨cs, hb, h2⟩ := Option.bind_eq_some_iff.1 hy
            obtain ⟨⟨cs', bs'⟩, hc, h3⟩ := Option.bind_eq_some_iff.1 h2
            simp only at h3
            split at h3 <;> simp at h3
          · obtain ⟨⟨b, ver, sz, e, l⟩, ho, h2⟩ := Option.bind_eq_some_iff.1 hy
            simp only at h2
            split at h2 <;> simp at h2
        · exact hbB
      subst hbB'
      refine ⟨PW.cons h3 ih.pw, fun i j x y hi hj hxo hyo => ?_, fun i x hi hxo => ?_⟩
      rotate_left
      · cases i with
        | zero => simp at hi; subst hi; exact ⟨by omega, h5⟩
        | succ i => simp at hi; rw [hno x (List.mem_of_getElem? hi)] at hxo; cases hxo
      cases i with
      | zero => cases j with
        | zero => rfl
        | succ j => simp at hj; rw [hno y (List.mem_of_getElem? hj)] at hyo; cases hyo
      | succ i => simp at hi; rw [hno x (List.mem_of_getElem? hi)] at hxo; cases hxo
    · rename_i hmv
      obtain ⟨y, hy, hx3⟩ := Option.bind_eq_some_iff.1 hx2
      simp only [Option.some.injEq, Prod.mk.injEq] at hx3
      obtain ⟨rfl, rfl⟩ := hx3
      have ih := args_sound h hB xs mv.tail ys' bs' us' ht hbB (hap2 rfl) h2
      have hno := exp_notown _ _ _ hy
      have hap3 : B = [] ∨ apartV s.st B 4 x = true := by
        rcases hap with hap | hap
        · exact .inl hap
        · simp only [argsApart, Bool.and_eq_true, hmv, Bool.false_or] at hap; exact .inr hap.1.2
      have hlen : B = [] ∨ ys'.length + 1 ≤ 1000 := by
        rcases hap with hap | hap
        · exact .inl hap
        · exact .inr hap.2
      refine ⟨PW.cons (ArgR.of (exp_sound h hB 4 _ y u hy hap3 h1) hno) ih.pw, fun i j x y hi hj hxo hyo => ?_, fun i x hi hxo => ?_⟩
      rotate_left
      · cases i with
        | zero => simp at hi; subst hi; rw [hno] at hxo; cases hxo
        | succ i =>
          have hi' : ys'[i]? = some x := by simpa using hi
          refine ⟨?_, (ih.small i x hi' hxo).2⟩
          rcases hlen with hlen | hlen
          · exfalso
            subst hlen
            have hb0 : bs' = [] := by rcases hbB with h | h <;> exact h
            subst hb0
            have := args_none xs mv.tail ys' ht x (List.mem_of_getElem? hi')
            rw [this] at hxo; cases hxo
          · have := (List.getElem?_eq_some_iff.1 hi').1
            omega
      cases i with
      | zero => simp at hi; subst hi; rw [hno] at hxo; cases hxo
      | succ i => cases j with
        | zero => simp at hj; subst hj; rw [hno] at hyo; cases hyo
        | succ j => rw [ih.one i j x y (by simpa using hi) (by simpa using hj) hxo hyo]

theorem ups_gone (st : Nat → Blk) : ∀ (bs : List Nat) (st' : Nat → Blk) (j : Nat), (∀ b, (st' b).ver = (st b).ver) →
    (ups st' (bs.map fun b => (b, ⟨(st b).ver, Cont.gone⟩)) j).ver = (st j).ver ∧ (j ∈ bs → (ups st' (bs.map fun b => (b, ⟨(st b).ver, Cont.gone⟩)) j).c.live = false) ∧ (j ∉ bs → ups st' (bs.map fun b => (b, ⟨(st b).ver, Cont.gone⟩)) j = st' j)
  | [], st', j, h => ⟨h j, fun hj => by simp at hj, fun _ => rfl⟩
  | b :: bs, st', j, h => by
    have ih := ups_gone st bs (upd st' b ⟨(st b).ver, Cont.gone⟩) j (fun q => by simp only [upd]; split <;> simp_all)
    simp only [List.map_cons, ups]
    refine ⟨ih.1, fun hj => ?_, fun hj => ?_⟩
    · by_cases hb : j ∈ bs
      · exact ih.2.1 hb
      · rw [ih.2.2 hb]
        have : j = b := by simpa [hb] using hj
        subst this
        simp [upd, Cont.live]
    · simp only [List.mem_cons, not_or] at hj
      rw [ih.2.2 hj.2]
      simp [upd, hj.1]
theorem ups_append (l m : List (Nat × Blk)) : ∀ st, ups st (l ++ m) = ups (ups st l) m := by
  induction l with
  | nil => intro st; rfl
  | cons p l ih => intro st; obtain ⟨b, k⟩ := p; simp only [List.cons_append, ups]; exact ih _

/-- the rows that hang in a box that is handed back -/
theorem hang_len (st : Nat → Blk) (b : Nat) : ∀ (cs : List V) (j : Nat), (hang st b j cs).1.length = cs.length
  | [], j => by simp [hang]
  | c :: r, j => by cases c <;> simp [hang, hang_len st b r (j + 1)]
theorem hang_get (st : Nat → Blk) (b : Nat) : ∀ (cs : List V) (j i : Nat), (hang st b j cs).1[i]? = (cs[i]?).map fun c => match c with
    | .own _ _ l => .sw (nest b (j + i)) ((st (nest b (j + i))).ver + 1) l.length
    | c => c
  | [], j, i => by simp [hang]
  | c :: r, j, i => by
    cases i with
    | zero => cases c <;> simp [hang]
    | succ i =>
      have e : j + 1 + i = j + (i + 1) := by omega
      cases c <;> (simp only [hang, List.getElem?_cons_succ]; rw [hang_get st b r (j + 1) i, e])
theorem hang_ups (st : Nat → Blk) (b : Nat) : ∀ (cs : List V) (j : Nat) (S : Nat → Blk) (q : Nat), ups S (hang st b j cs).2 q = (match (if nest b j ≤ q then cs[q - nest b j]? else none) with
    | some (.own sz e l) => ⟨(st q).ver + 1, .row sz e l⟩
    | _ => S q)
  | [], j, S, q => by simp [hang, ups]
  | c :: r, j, S, q => by
    have hn : nest b (j + 1) = nest b j + 1 := by unfold nest; omega
    have tail : ∀ S', (q = nest b j → (match c with | .own sz e l => (⟨(st q).ver + 1, .row sz e l⟩ : Blk) | _ => S q) = S' q) → (q ≠ nest b j → S' q = S q) → ups S' (hang st b (j + 1) r).2 q = (match (if nest b j ≤ q then (c :: r)[q - nest b j]? else none) with
        | some (.own sz e l) => (⟨(st q).ver + 1, .row sz e l⟩ : Blk)
        | _ => S q) := fun S' h1 h2 => by
      rw [hang_ups st b r (j + 1) S' q, hn]
      by_cases hq : q = nest b j
      · subst hq
        rw [if_neg (by omega), if_pos (Nat.le_refl _), Nat.sub_self, List.getElem?_cons_zero]
        simp only
        rw [← h1 rfl]
        cases c <;> rfl
      · by_cases hle : nest b j ≤ q
        · have e : q - nest b j = (q - (nest b j + 1)) + 1 := by omega
          rw [if_pos (by omega), if_pos hle, e, List.getElem?_cons_succ]
          rw [h2 hq]
        · rw [if_neg (by omega), if_neg hle]
          exact h2 hq
    cases c <;> simp only [hang]
    case own sz e l =>
      simp only [ups]
      refine tail _ (fun hq => ?_) (fun hq => ?_)
      · subst hq; simp [upd]
      · simp [upd, hq]
    all_goals exact tail S (fun _ => rfl) (fun _ => rfl)

/-- behind a call: what was handed over is gone, the blocks N are as the called function leaves them -/
theorem after_call (h : Rel w0 I n ⟨env, st⟩ a w η) {bs : List Nat} (hlive : ∀ b ∈ bs, (st b).c.live = true) (hfr : Fr w (Moved η bs) w') {st' : Nat → Blk} {η' : Nat → Value} (N : Nat → Prop)
    (hst : ∀ j, j ∉ bs → ¬ N j → st' j = st j ∧ η' j = η j) (hgone : ∀ j, j ∈ bs → ¬ N j → (st' j).c.live = false ∧ (st j).ver ≤ (st' j).ver)
    (hver : ∀ j, N j → (st j).ver < (st' j).ver ∨ ((st j).ver = (st' j).ver ∧ η' j = η j ∧ (st j).c.live = true))
    (hblk : ∀ j g, N j → blkOf (η' j) = some g → Fresh w (Moved η bs) g)
    (hsep : ∀ j j' g, N j → N j' → blkOf (η' j) = some g → blkOf (η' j') = some g → j = j')
    (hBR : (cx w0 I st w η).le (cx w0 I st' w' η') → (∀ g, Fresh w (Moved η bs) g → (∀ j, N j → blkOf (η' j) ≠ some g) → ¬ (cx w0 I st' w' η').own g ∧ (cx w0 I st' w' η').fresh g) → ∀ j, N j → BR (cx w0 I st' w' η') (η' j) (st' j).c) :
    Rel w0 I n ⟨env, st'⟩ a w' η' ∧ (cx w0 I st w η).le (cx w0 I st' w' η') ∧ (∀ g, Fresh w (Moved η bs) g → (∀ j, N j → blkOf (η' j) ≠ some g) → ¬ (cx w0 I st' w' η').own g ∧ (cx w0 I st' w' η').fresh g) := by
  have hJlt : ∀ g, Moved η bs g → g < w.heap.size ∧ (w0.heap.size ≤ g ∨ I.i g) := fun g ⟨b, hb, hg⟩ => ⟨h.lt (hlive b hb) hg, h.old b g (hlive b hb) hg⟩
  have hheap : ∀ g, g < w.heap.size → w'.heap[g]? ≠ w.heap[g]? → ∃ b, b ∈ bs ∧ (st b).c.live = true ∧ blkOf (η b) = some g := fun g hg hne => by
    by_cases hJ : Moved η bs g
    · obtain ⟨b, hb, hg'⟩ := hJ
      exact ⟨b, hb, hlive b hb, hg'⟩
    · exact absurd (hfr.block g hg hJ) hne
  have hfresh : ∀ g, Fresh w (Moved η bs) g → (∀ j, N j → blkOf (η' j) ≠ some g) → ¬ (cx w0 I st' w' η').own g ∧ (cx w0 I st' w' η').fresh g := fun g hf hN => by
    refine ⟨fun ⟨b, hb, hg⟩ => ?_, ?_⟩
    · by_cases hNb : N b
      · exact hN b hNb hg
      · by_cases hbb : b ∈ bs
        · rw [(hgone b hbb hNb).1] at hb; cases hb
        · obtain ⟨e1, e2⟩ := hst b hbb hNb
          rw [e1] at hb
          rw [e2] at hg
          rcases hf with hf | ⟨b1, hb1, hg1⟩
          · have := h.lt hb hg; omega
          · exact hbb (h.sep b1 b g (hlive b1 hb1) hb hg1 hg ▸ hb1)
    · rcases hf with hf | hf
      · exact .inl (Nat.le_trans h.fr.size hf)
      · exact (hJlt g hf).2
  obtain ⟨h6, hle⟩ := h.step (st' := st') (w' := w') (η' := η') (fun j => j ∈ bs ∨ N j)
    hfr.os hfr.tape hfr.output hfr.size
    (fun j hj => by simp only [not_or] at hj; exact hst j hj.1 hj.2)
    (fun j hj => by
      by_cases hN : N j
      · rcases hver j hN with h1 | h1 <;> omega
      · rcases hj with hj | hj
        · exact (hgone j hj hN).2
        · exact absurd hj hN)
    (fun j hj hl => by
      by_cases hN : N j
      · rcases hver j hN with h1 | ⟨_, h1, h2⟩
        · exact .inl h1
        · exact .inr ⟨h1, h2⟩
      · rcases hj with hj | hj
        · rw [(hgone j hj hN).1] at hl; cases hl
        · exact absurd hj hN)
    (fun g hg hne => by obtain ⟨b, h1, h2, h3⟩ := hheap g hg hne; exact ⟨b, .inl h1, h2, h3⟩)
    (fun j g hj hl hg => by
      by_cases hN : N j
      · rcases hblk j g hN hg with h1 | ⟨b, hb, h1⟩
        · exact .inl h1
        · exact .inr ⟨b, .inl hb, hlive b hb, h1⟩
      · rcases hj with hj | hj
        · rw [(hgone j hj hN).1] at hl; cases hl
        · exact absurd hj hN)
    (fun j j' g hj hj' hl hl' hg hg' => by
      have key : ∀ q, (q ∈ bs ∨ N q) → (st' q).c.live = true → N q := fun q hq hql => Classical.byContradiction fun hN => by
        rcases hq with hq | hq
        · rw [(hgone q hq hN).1] at hql; cases hql
        · exact hN hq
      exact hsep j j' g (key j hj hl) (key j' hj' hl') hg hg')
    (fun hle j hj hl => by
      have hN : N j := Classical.byContradiction fun hN => by
        rcases hj with hj | hj
        · rw [(hgone j hj hN).1] at hl; cases hl
        · exact hN hj
      exact hBR hle hfresh j hN)
  exact ⟨h6, hle, hfresh⟩

theorem RC.scalT {w w' : World} {own fresh own' fresh' : Nat → Prop} {k k' : Bool} {v : Value} {x : V} (hx : x.scalT = true) (h : RC w own fresh k v x) : RC w' own' fresh' k' v x := by
  cases x <;> simp only [V.scalT, reduceCtorEq, Bool.false_eq_true] at hx
  case s u => cases h; exact .s _ _
  case agg l =>
    cases h with
    | agg _ us _ hl he =>
      refine .agg _ us l hl fun i u y hu hy => ?_
      have := List.all_eq_true.1 hx y (List.mem_of_getElem? hy)
      split at this
      · have := he i u _ hu hy
        cases this
        exact .s _ _
      · cases this
  case tup l =>
    cases h with
    | tup _ us _ hl he =>
      refine .tup _ us l hl fun i u y hu hy => ?_
      have := List.all_eq_true.1 hx y (List.mem_of_getElem? hy)
      split at this
      · have := he i u _ hu hy
        cases this
        exact .s _ _
      · cases this

/-- a box that comes back, at the place d -/
theorem box_back (h : Rel w0 I n ⟨env, st⟩ a w η) {bs : List Nat} (hlive : ∀ b ∈ bs, (st b).c.live = true) (hfr : Fr w (Moved η bs) w') {d ver : Nat} {v : Value} {cs : List V} (hbox : BoxR w' (Fresh w (Moved η bs)) v cs)
    (hd : (st d).ver < ver ∨ ((st d).ver = ver ∧ v = η d ∧ (st d).c.live = true)) (S : Nat → Blk) (hS : S = ups st ((bs.map fun b => (b, (⟨(st b).ver, Cont.gone⟩ : Blk))) ++ ((hang st d 0 cs).2 ++ [(d, ⟨ver, .box (hang st d 0 cs).1⟩)]))) :
    ∃ η', Rel w0 I n ⟨env, S⟩ a w' η' ∧ RV (cx w0 I S w' η') v (.ptr d ver 0) ∧ (cx w0 I st w η).le (cx w0 I S w' η') := by
  obtain ⟨g, o, cur, e, us, rfl, hg, hDg, hus, hpw, hnest, hsepc⟩ := hbox
  have hgone := fun j => ups_gone st bs st j (fun _ => rfl)
  have hnb : ∀ j, d < nest d j := fun j => by unfold nest; omega
  have hSt : ∀ q, S q = if q = d then ⟨ver, .box (hang st d 0 cs).1⟩ else (match (if nest d 0 ≤ q then cs[q - nest d 0]? else none) with
      | some (.own sz e l) => ⟨(st q).ver + 1, .row sz e l⟩
      | _ => ups st (bs.map fun b => (b, (⟨(st b).ver, Cont.gone⟩ : Blk))) q) := fun q => by
    rw [hS, ups_append, ups_append]
    simp only [ups, upd]
    split
    · rfl
    · rw [hang_ups]
  -- the blocks that are new
  let N : Nat → Prop := fun q => q = d ∨ ∃ i sz e l u, q = nest d i ∧ cs[i]? = some (V.own sz e l) ∧ us[i]? = some u
  have hN : ∀ q i sz e l, q = nest d i → cs[i]? = some (V.own sz e l) → S q = ⟨(st q).ver + 1, .row sz e l⟩ := fun q i sz e l hq hc => by
    have e1 : nest d 0 ≤ q := by rw [hq]; unfold nest; omega
    have e2 : q - nest d 0 = i := by rw [hq]; unfold nest; omega
    have e3 : q ≠ d := by have := hnb i; omega
    rw [hSt, if_neg e3, if_pos e1, e2, hc]
  have hNo : ∀ q, ¬ N q → S q = ups st (bs.map fun b => (b, (⟨(st b).ver, Cont.gone⟩ : Blk))) q := fun q hq => by
    rw [hSt, if_neg fun hqd => hq (.inl hqd)]
    split
    · rename_i sz e l hx
      exfalso
      split at hx
      · rename_i hle
        obtain ⟨u, hu, _⟩ := hpw.get hx
        exact hq (.inr ⟨q - nest d 0, sz, e, l, u, by unfold nest at hle ⊢; omega, hx, hu⟩)
      · cases hx
    · rfl
  let η' : Nat → Value := fun q => if q = d then .pointer (some ⟨g, o, none⟩) else if nest d 0 ≤ q then (match cs[q - nest d 0]?, us[q - nest d 0]? with
      | some (.own _ _ _), some u => u
      | _, _ => η q) else η q
  have hη1 : η' d = .pointer (some ⟨g, o, none⟩) := if_pos rfl
  have hη2 : ∀ q i sz e l u, q = nest d i → cs[i]? = some (V.own sz e l) → us[i]? = some u → η' q = u := fun q i sz e l u hq hc hu => by
    have e1 : nest d 0 ≤ q := by rw [hq]; unfold nest; omega
    have e2 : q - nest d 0 = i := by rw [hq]; unfold nest; omega
    have e3 : q ≠ d := by have := hnb i; omega
    simp only [η', if_neg e3, if_pos e1, e2, hc, hu]
  have hη3 : ∀ q, ¬ N q → η' q = η q := fun q hq => by
    simp only [η']
    rw [if_neg fun hqd => hq (.inl hqd)]
    split
    · rename_i hle
      split
      · rename_i sz e l u hc hu
        exact absurd (.inr ⟨q - nest d 0, sz, e, l, u, by unfold nest at hle ⊢; omega, hc, hu⟩) hq
      · rfl
    · rfl
  have hlenc : (hang st d 0 cs).1.length = cs.length := hang_len st d cs 0
  obtain ⟨h6, hle, hfr2⟩ := after_call h hlive hfr (st' := S) (η' := η') N
    (fun j hj hNj => ⟨by rw [hNo j hNj]; exact (hgone j).2.2 hj, hη3 j hNj⟩)
    (fun j hj hNj => by rw [hNo j hNj]; exact ⟨(hgone j).2.1 hj, by rw [(hgone j).1]; exact Nat.le_refl _⟩)
    (fun j hNj => by
      rcases hNj with rfl | ⟨i, sz, e, l, u, hq, hc, hu⟩
      · rw [hSt, if_pos rfl, hη1]; exact hd
      · rw [hN j i sz e l hq hc]; exact .inl (by simp))
    (fun j g' hNj hg' => by
      rcases hNj with rfl | ⟨i, sz, e, l, u, hq, hc, hu⟩
      · rw [hη1] at hg'; simp [blkOf] at hg'; subst hg'; exact hDg
      · rw [hη2 j i sz e l u hq hc hu] at hg'; exact (hnest i u sz e l g' hu hc hg').1)
    (fun j j' g' hNj hNj' hg' hg2 => by
      rcases hNj with rfl | ⟨i, sz, e, l, u, hq, hc, hu⟩
      · rcases hNj' with rfl | ⟨i', sz', e', l', u', hq', hc', hu'⟩
        · rfl
        · rw [hη2 j' i' sz' e' l' u' hq' hc' hu'] at hg2
          rw [hη1] at hg'
          simp [blkOf] at hg'
          exact absurd hg' ((hnest i' u' sz' e' l' g' hu' hc' hg2).2).symm
      · rw [hη2 j i sz e l u hq hc hu] at hg'
        rcases hNj' with rfl | ⟨i', sz', e', l', u', hq', hc', hu'⟩
        · rw [hη1] at hg2
          simp [blkOf] at hg2
          exact absurd hg2.symm (hnest i u sz e l g' hu hc hg').2
        · rw [hη2 j' i' sz' e' l' u' hq' hc' hu'] at hg2
          have := hsepc i i' u u' sz e l sz' e' l' g' hu hu' hc hc' hg' hg2
          rw [hq, hq', this])
    (fun hle hfr2 j hNj => by
      rcases hNj with rfl | ⟨i, sz, e, l, u, hq, hc, hu⟩
      · rw [hSt, if_pos rfl, hη1]
        refine ⟨g, o, cur, e, rfl, hg, ?_⟩
        rw [hlenc, ← hus]
        refine ⟨by rw [hlenc]; exact hpw.1, fun i u x hu hx => ?_⟩
        rw [hang_get] at hx
        obtain ⟨c, hc, rfl⟩ := Option.map_eq_some_iff.1 hx
        have hr := hpw.2 i u c hu hc
        cases c <;> simp only [CellR] at hr
        case s v => subst hr; exact .s _
        case own sz e l =>
          obtain ⟨hsc, us1, ho, _⟩ := hr
          simp only [Nat.zero_add]
          refine .sw _ _ _ _ ?_ ?_ fun v0 hv0 => ?_
          · rcases ho.val with ⟨h', h0⟩ | ⟨g', o', cap', h', _⟩
            · exact ⟨none, 0, by rw [h', h0]⟩
            · exact ⟨_, _, h'⟩
          · simp only [cx]
            rw [hN _ i sz e l rfl hc]
            exact Nat.le_refl _
          · simp only [cx] at hv0
            rw [hN _ i sz e l rfl hc] at hv0
            simp [Cont.live] at hv0
            rw [hη2 _ i sz e l u rfl hc hu] at hv0
            exact hv0
      · rw [hN j i sz e l hq hc, hη2 j i sz e l u hq hc hu]
        have hr := hpw.2 i u _ hu hc
        obtain ⟨hsc, hrow⟩ := hr
        exact hrow.scal hsc fun _ _ => rfl)
  refine ⟨η', h6, .ptr d ver 0 _ ⟨_, rfl⟩ (by simp only [cx]; rw [hSt, if_pos rfl]; exact Nat.le_refl _) fun v0 hv0 => ?_, hle⟩
  simp only [cx] at hv0
  rw [hSt, if_pos rfl] at hv0
  simp [Cont.live] at hv0
  rw [hη1] at hv0
  exact ⟨g, o, hv0.symm, rfl⟩

theorem call_sound {C : Orc} (hC : ∀ g sp, C g = some sp → Impl P g sp) (h : Rel w0 I n ⟨env, st⟩ a w η) {d : Nat} {f : V} {u : Value} {xs : List V} {vs : List Value} {z : V} {us : List (Nat × Blk)}
    (hf : RV (cx w0 I st w η) u f) (hx : PW (RV (cx w0 I st w η)) vs xs) (hc : callV C st d f xs = some (z, us)) :
    ∃ g caps, u = .func (.func g) #[] caps ∧ (∃ fn, P.funcs[g]? = some fn ∧ (fn.name == "runtime.NumGoroutine") = false ∧ fn.body.isNone = false) ∧
      Calls P g (vs.toArray ++ caps) w fun e w' => ∃ v η', e = .returned v ∧ Rel w0 I n ⟨env, ups st us⟩ a w' η' ∧ RV (cx w0 I (ups st us) w' η') v z := by
  cases f <;> simp only [callV, reduceCtorEq] at hc
  rename_i g caps
  obtain ⟨sp, hsp, h2⟩ := Option.bind_eq_some_iff.1 hc
  obtain ⟨⟨ys, bs⟩, hys, h3⟩ := Option.bind_eq_some_iff.1 h2
  obtain ⟨r, hr, h4⟩ := Option.bind_eq_some_iff.1 h3
  split at h4
  case isFalse => cases h4
  rename_i hap
  obtain ⟨cs, rfl, hcs⟩ := hf.fn_inv
  obtain ⟨hfn, himpl⟩ := hC g sp hsp
  refine ⟨g, cs.toArray, rfl, hfn, ?_⟩
  have hxx := hx.append hcs
  have hlive := args_live h (xs ++ caps) sp.mv ys bs (vs ++ cs) hys hxx
  have hargs := args_sound h hlive (xs ++ caps) sp.mv ys bs (vs ++ cs) hys (.inr rfl) hap hxx
  have harr : (vs.toArray ++ cs.toArray).toList = vs ++ cs := by simp
  refine (himpl ys r hr (vs.toArray ++ cs.toArray) w (Moved η bs) (by rw [harr]; exact hargs)).mono ?_
  rintro e w' ⟨v, rfl, hfr, hres⟩
  have hgone := fun j => ups_gone st bs st j (fun _ => rfl)
  cases r
  case own sz e l =>
    simp only [Option.some.injEq, Prod.mk.injEq] at h4
    obtain ⟨rfl, rfl⟩ := h4
    obtain ⟨hrow, hblk⟩ := hres
    have hst : ∀ j, ups st ((bs.map fun b => (b, (⟨(st b).ver, Cont.gone⟩ : Blk))) ++ [(d, ⟨(st d).ver + 1, .row sz e l⟩)]) j = if j = d then ⟨(st d).ver + 1, .row sz e l⟩ else ups st (bs.map fun b => (b, (⟨(st b).ver, Cont.gone⟩ : Blk))) j := fun j => by
      rw [ups_append]; simp [ups, upd]
    obtain ⟨h6, hle, _⟩ := after_call h hlive hfr (st' := ups st ((bs.map fun b => (b, (⟨(st b).ver, Cont.gone⟩ : Blk))) ++ [(d, ⟨(st d).ver + 1, .row sz e l⟩)])) (η' := upd η d v) (fun j => j = d)
      (fun j hj hjd => by
        rw [hst, if_neg hjd, (hgone j).2.2 hj]
        simp [upd, hjd])
      (fun j hj hjd => by rw [hst, if_neg hjd]; exact ⟨(hgone j).2.1 hj, by rw [(hgone j).1]; exact Nat.le_refl _⟩)
      (fun j hjd => by subst hjd; rw [hst, if_pos rfl]; exact .inl (by simp))
      (fun j g hjd hg => by subst hjd; simp [upd] at hg; exact hblk g hg)
      (fun j j' g hj hj' _ _ => hj.trans hj'.symm)
      (fun hle hfr2 j hjd => by
        subst hjd
        rw [hst, if_pos rfl]
        simp only [upd, if_pos]
        obtain ⟨us0, ho, hu0, hp0, h10⟩ := hrow
        exact ⟨us0, ho, hu0, hp0.imp fun u x hx => hx.refresh rfl fun g hg hf => hfr2 g hf fun q hq => by subst hq; simpa [upd] using hg, h10⟩)
    refine ⟨v, _, rfl, h6, .sw d _ _ _ ?_ ?_ fun v0 hv0 => ?_⟩
    · obtain ⟨us0, ho, _⟩ := hrow
      rcases ho.val with ⟨h', h0⟩ | ⟨g', o', cap', h', _⟩
      · exact ⟨none, 0, by rw [h', h0]⟩
      · exact ⟨_, _, h'⟩
    · simp only [cx, hst]; simp
    · simp only [cx, hst] at hv0
      simp [upd, Cont.live] at hv0
      exact hv0
  case obx cs' =>
    simp only [Option.some.injEq, Prod.mk.injEq] at h4
    obtain ⟨rfl, rfl⟩ := h4
    obtain ⟨η', h5, h6, _⟩ := box_back h hlive hfr (d := d) (ver := (st d).ver + 1) hres (.inl (by omega)) _ rfl
    exact ⟨v, η', rfl, h5, h6⟩
  case io t r out =>
    obtain ⟨hsc, hrv, u0, hu0, hout⟩ := hres
    obtain ⟨up, hup, he⟩ := Option.map_eq_some_iff.1 h4
    simp only [Prod.mk.injEq] at he
    obtain ⟨rfl, rfl⟩ := he
    have hu1 : (vs ++ cs)[t]? = some u0 := by rw [← harr]; simpa using hu0
    obtain ⟨x0, hx0, hrx⟩ := hxx.getl hu1
    unfold backV at hup
    rw [hx0] at hup
    split at hup
    · rename_i b ver m sz e l heq
      simp only [Option.some.injEq] at heq
      subst heq
      split at hup
      case isFalse => cases hup
      rename_i hlen
      obtain ⟨hlen, hsome⟩ := hlen
      simp only [Option.some.injEq] at hup
      subst hup
      obtain ⟨⟨sz0, e0, l0⟩, hrowat⟩ := Option.isSome_iff_exists.1 hsome
      obtain ⟨hver, hcont, hlook, _⟩ := look_row h hrowat
      simp only at hver hcont
      have hub : u0 = η b := hrx.sw_inv.2.2 _ hlook
      have hbl : (st b).c.live = true := by rw [hcont]; rfl
      have hst : ∀ j, ups st ((bs.map fun b => (b, (⟨(st b).ver, Cont.gone⟩ : Blk))) ++ [(b, ⟨ver, .row sz e l⟩)]) j = if j = b then ⟨ver, .row sz e l⟩ else ups st (bs.map fun b => (b, (⟨(st b).ver, Cont.gone⟩ : Blk))) j := fun j => by
        rw [ups_append]; simp [ups, upd]
      obtain ⟨⟨hsc2, hrow⟩, hfresh⟩ := hout
      obtain ⟨h6, hle, _⟩ := after_call h hlive hfr (st' := ups st ((bs.map fun b => (b, (⟨(st b).ver, Cont.gone⟩ : Blk))) ++ [(b, ⟨ver, .row sz e l⟩)])) (η' := η) (fun j => j = b)
        (fun j hj hjd => by
          rw [hst, if_neg hjd, (hgone j).2.2 hj]
          exact ⟨rfl, rfl⟩)
        (fun j hj hjd => by rw [hst, if_neg hjd]; exact ⟨(hgone j).2.1 hj, by rw [(hgone j).1]; exact Nat.le_refl _⟩)
        (fun j hjd => by subst hjd; rw [hst, if_pos rfl]; exact .inr ⟨hver, rfl, hbl⟩)
        (fun j g hjd hg => by subst hjd; rw [← hub] at hg; exact hfresh g hg)
        (fun j j' g hj hj' _ _ => hj.trans hj'.symm)
        (fun hle hfr2 j hjd => by
          subst hjd
          rw [hst, if_pos rfl, ← hub]
          exact hrow.scal hsc2 fun _ _ => rfl)
      exact ⟨v, η, rfl, h6, RC.rvt (k := true) (RC.scalT hsc hrv) rfl⟩
    · rename_i b ver cs' heq
      simp only [Option.some.injEq] at heq
      subst heq
      split at hup
      case isFalse => cases hup
      rename_i hsome
      simp only [Option.some.injEq] at hup
      subst hup
      obtain ⟨cs0, hboxat⟩ := Option.isSome_iff_exists.1 hsome
      obtain ⟨hver, hcont, hlook, _⟩ := look_box h hboxat
      simp only at hver hcont
      obtain ⟨_, _, hpo⟩ := hrx.ptr_inv
      obtain ⟨g0, o0, h7, h8⟩ := hpo _ hlook
      obtain ⟨η', h5, _, _⟩ := box_back h hlive hfr (d := b) (ver := ver) hout (.inr ⟨hver, by rw [h7, h8]; rfl, by rw [hcont]; rfl⟩) _ rfl
      exact ⟨v, η', rfl, h5, RC.rvt (k := true) (RC.scalT hsc hrv) rfl⟩
    · cases hup
  all_goals
    simp only [Option.some.injEq, Prod.mk.injEq] at h4
    obtain ⟨rfl, rfl⟩ := h4
    obtain ⟨h6, hle, hfr2⟩ := after_call h hlive hfr (st' := ups st (bs.map fun b => (b, (⟨(st b).ver, Cont.gone⟩ : Blk)))) (η' := η) (fun _ => False)
      (fun j hj _ => ⟨(hgone j).2.2 hj, rfl⟩) (fun j hj _ => ⟨(hgone j).2.1 hj, by rw [(hgone j).1]; exact Nat.le_refl _⟩)
      (fun j hj => hj.elim) (fun j g hj => hj.elim) (fun j j' g hj => hj.elim) (fun hle hfr2 j hj => hj.elim)
    refine ⟨v, η, rfl, h6, RC.rvt (k := true) ?_ rfl⟩
    exact RC.refresh (show RC w' (fun _ => False) (Fresh w (Moved η bs)) true v _ from hres) rfl fun g _ hf => hfr2 g hf fun _ h => h.elim
end

end Go.Proofs.Ytbmgaebhcomjaaa
