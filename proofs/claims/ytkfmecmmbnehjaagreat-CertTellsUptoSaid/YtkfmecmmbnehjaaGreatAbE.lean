/-
Structs and arrays of whole numbers are equal if these are, one by one. No condition.
-/
import Derived.Test.YtkfmecmmbnehjaaGreatAbW
import Derived.Laws.StructEq
import Derived.ChangeKeysEq
/-
Calls: what a function is known to answer serves the one that calls it. No condition.
-/
namespace Go.Proofs.YtkfmecmmbnehjaaGreat
set_option linter.unusedSimpArgs false
set_option linter.unusedVariables false

def Fresh (w : World) (J : Nat → Prop) : Nat → Prop := fun g => w.heap.size ≤ g ∨ J g

/-- a cell of a box that is handed over, or back -/
def CellR (w : World) (u : Value) : V → Prop
  | .s v => u = v
  | .own sz e l => l.all V.scal = true ∧ RowR w (fun _ => False) (fun _ => True) u sz e l
  | _ => False

/-- a box that is handed over, or back, with the rows that hang in it; D: where its blocks may lie -/
def BoxR (w : World) (D : Nat → Prop) (v : Value) (cs : List V) : Prop :=
  ∃ g o cur e us, v = .pointer (some ⟨g, o, none⟩) ∧ w.heap[g]? = some (.cells cur e (0, 0)) ∧ D g ∧ us = (cur.toList.drop o).take cs.length ∧ PW (CellR w) us cs ∧
    (∀ (j : Nat) (u : Value) (sz e : Nat) (l : List V) (g' : Nat), us[j]? = some u → cs[j]? = some (V.own sz e l) → blkOf u = some g' → D g' ∧ g' ≠ g) ∧
    (∀ (i j : Nat) (u u' : Value) (sz e : Nat) (l : List V) (sz' e' : Nat) (l' : List V) (g' : Nat), us[i]? = some u → us[j]? = some u' → cs[i]? = some (V.own sz e l) → cs[j]? = some (V.own sz' e' l') → blkOf u = some g' → blkOf u' = some g' → i = j)

/-- an argument as the called function has it -/
def ArgR (w : World) (J : Nat → Prop) (u : Value) : V → Prop
  | .own sz e l => RowR w J (Fresh w J) u sz e l ∧ ∀ g, blkOf u = some g → J g
  | .obx cs => BoxR w J u cs
  | x => RC w J (Fresh w J) false u x

def V.isOwn : V → Bool
  | .own .. => true
  | .obx _ => true
  | _ => false

structure Args (w : World) (J : Nat → Prop) (vs : List Value) (xs : List V) : Prop where
  pw : PW (ArgR w J) vs xs
  one : ∀ (i j : Nat) (x y : V), xs[i]? = some x → xs[j]? = some y → x.isOwn = true → y.isOwn = true → i = j
  small : ∀ (i : Nat) (x : V), xs[i]? = some x → x.isOwn = true → i < 1000 ∧ ∀ cs, x = .obx cs → cs.length ≤ 1000

/-- a result as its caller has it -/
def ResR (w : World) (J : Nat → Prop) (w' : World) (v : Value) : V → Prop
  | .own sz e l => RowR w' (fun g => blkOf v = some g) (Fresh w J) v sz e l ∧ ∀ g, blkOf v = some g → Fresh w J g
  | .obx cs => BoxR w' (Fresh w J) v cs
  | r => RC w' (fun _ => False) (Fresh w J) true v r

/-- what an argument holds behind the call -/
def OutR (w : World) (J : Nat → Prop) (w' : World) (u : Value) : V → Prop
  | .own sz e l => CellR w' u (.own sz e l) ∧ ∀ g, blkOf u = some g → Fresh w J g
  | .obx cs => BoxR w' (Fresh w J) u cs
  | _ => False

def PostR (w : World) (J : Nat → Prop) (w' : World) (vs : Array Value) (v : Value) : V → Prop
  | .io t r out => r.scalT = true ∧ RC w' (fun _ => False) (Fresh w J) true v r ∧ ∃ u, vs[t]? = some u ∧ OutR w J w' u out
  | r => ResR w J w' v r

/-- the function does what is known of it -/
def Impl (P : Program) (g : Nat) (sp : Spec) : Prop :=
  (∃ fn, P.funcs[g]? = some fn ∧ (fn.name == "runtime.NumGoroutine") = false ∧ fn.body.isNone = false) ∧
  ∀ xs r, sp.fn xs = some r → ∀ (vs : Array Value) (w : World) (J : Nat → Prop), Args w J vs.toList xs →
    Calls P g vs w fun e w' => ∃ v, e = .returned v ∧ Fr w J w' ∧ PostR w J w' vs v r

section
variable {P : Program} {w0 w w' : World} {I : Ow} {n : Nat} {s : S} {env : Nat → V} {st : Nat → Blk} {a : Act} {η : Nat → Value}

theorem Rel.lt (h : Rel w0 I n s a w η) {b g : Nat} (hb : (s.st b).c.live = true) (hg : blkOf (η b) = some g) : g < w.heap.size := (h.blk b hb).lt hb hg

theorem mapM_PW {R R' : Value → V → Prop} {f : V → Option V} : ∀ {us : List Value} {l l' : List V}, l.mapM f = some l' → PW R us l → (∀ u x y, x ∈ l → R u x → f x = some y → R' u y) → PW R' us l'
  | us, [], l', h, hp, _ => by
    simp at h
    subst h
    rw [hp.nil_r]; exact PW.nil
  | us, x :: l, l', h, hp, hf => by
    obtain ⟨u, us', rfl, h1, h2⟩ := hp.uncons
    simp only [List.mapM_cons, Option.bind_eq_bind, Option.pure_def] at h
    obtain ⟨y, hy, h3⟩ := Option.bind_eq_some_iff.1 h
    obtain ⟨l2, hl2, h4⟩ := Option.bind_eq_some_iff.1 h3
    simp only [Option.some.injEq] at h4
    subst h4
    exact PW.cons (hf u x y (by simp) h1 hy) (mapM_PW hl2 h2 fun u x y hx => hf u x y (by simp [hx]))

/-- these blocks are handed over -/
def Moved (η : Nat → Value) (bs : List Nat) : Nat → Prop := fun g => ∃ b ∈ bs, blkOf (η b) = some g

theorem exp_sound (h : Rel w0 I n s a w η) {bs : List Nat} (hbs : ∀ b ∈ bs, (s.st b).c.live = true) {F : Nat → Prop} : ∀ (k : Nat) (x y : V) (u : Value), expV s.st k x = some y → (bs = [] ∨ apartV s.st bs k x = true) → RV (cx w0 I s.st w η) u x → RC w (Moved η bs) F false u y
  | 0, x, y, u, hx, _, _ => by simp [expV] at hx
  | k + 1, x, y, u, hx, ha, hu => by
    have hown : ∀ g, Moved η bs g → (cx w0 I s.st w η).own g := fun g ⟨b, hb, hg⟩ => ⟨b, hbs b hb, hg⟩
    have hmono : ∀ {k v x}, RC w (cx w0 I s.st w η).own (cx w0 I s.st w η).fresh k v x → RC w (Moved η bs) F false v x := fun {k v x} hr => (hr.mono (own' := Moved η bs) fun g hg _ => ⟨rfl, fun hm => hg (hown g hm)⟩).weak
    have hnot : ∀ b g, (s.st b).c.live = true → (bs = [] ∨ (!(bs.contains b)) = true) → blkOf (η b) = some g → ¬ Moved η bs g := fun b g hb hnb hg ⟨b', hb', hg'⟩ => by
      have hbb := h.sep b b' g hb (hbs b' hb') hg hg'
      subst hbb
      rcases hnb with hnb | hnb
      · rw [hnb] at hb'; simp at hb'
      · simp at hnb; exact hnb hb'
    have hal : ∀ (l : List V), (bs = [] ∨ l.all (apartV s.st bs k) = true) → ∀ x ∈ l, bs = [] ∨ apartV s.st bs k x = true := fun l hl x hx => by
      rcases hl with hl | hl
      · exact .inl hl
      · exact .inr (List.all_eq_true.1 hl x hx)
    cases x <;> simp only [expV, reduceCtorEq] at hx <;> simp only [apartV] at ha
    case s v =>
      simp only [Option.some.injEq] at hx
      subst hx
      rw [hu.s_inv]; exact .s _ _
    case agg l =>
      obtain ⟨l', hl', rfl⟩ := Option.map_eq_some_iff.1 hx
      obtain ⟨us, rfl, hp⟩ := hu.agg_inv
      exact rc_agg _ _ (mapM_PW hl' hp fun u x y hm hr hf => exp_sound h hbs k x y u hf (hal l ha x hm) hr)
    case tup l =>
      obtain ⟨l', hl', rfl⟩ := Option.map_eq_some_iff.1 hx
      obtain ⟨us, rfl, hp⟩ := hu.tup_inv
      have := mapM_PW (R' := RC w (Moved η bs) F false) hl' hp fun u x y hm hr hf => exp_sound h hbs k x y u hf (hal l ha x hm) hr
      exact .tup _ us l' this.1 this.2
    case fn f l =>
      obtain ⟨l', hl', rfl⟩ := Option.map_eq_some_iff.1 hx
      obtain ⟨us, rfl, hp⟩ := hu.fn_inv
      have := mapM_PW (R' := RC w (Moved η bs) F false) hl' hp fun u x y hm hr hf => exp_sound h hbs k x y u hf (hal l ha x hm) hr
      exact .fn _ f us l' this.1 this.2
    case lst fr sz l =>
      simp only [Option.some.injEq] at hx
      subst hx
      exact (hmono hu.lst_inv).unfr
    case ept l =>
      simp only [Option.some.injEq] at hx
      subst hx
      exact hmono hu.ept_inv
    case sw b ver len =>
      cases hb : rowAt s.st b ver with
      | none =>
        rw [hb] at hx
        simp only [Option.map_none, elseV_none] at hx
        obtain ⟨⟨sz, e, l⟩, hb2, h2⟩ := Option.bind_eq_some_iff.1 hx
        obtain ⟨m, hm, rfl⟩ := Option.map_eq_some_iff.1 h2
        obtain ⟨hver, hcon⟩ : (s.st b).ver = ver ∧ (s.st b).c = .rowV sz e l := by
          unfold rowVAt at hb2
          split at hb2
          case isFalse => cases hb2
          rename_i hver
          split at hb2
          · rename_i sz1 e1 l1 hc
            simp only [Option.some.injEq, Prod.mk.injEq] at hb2
            obtain ⟨rfl, rfl, rfl⟩ := hb2
            exact ⟨hver, hc⟩
          · cases hb2
        have hany : rowAny s.st b ver = some (sz, e, l) := by
          unfold rowAny
          rw [if_pos hver, hcon]
        obtain ⟨_, hlive, hl, hrow⟩ := look_any h hany
        obtain ⟨A, cp, us, hv0, h1, hu0, hp, h1c, h5⟩ := hrow.elems
        obtain ⟨_, _, heq⟩ := hu.sw_inv
        have hA := heq _ hl
        rw [hv0] at hA
        have ha1 : bs = [] ∨ (!(bs.contains b)) = true := by
          rcases ha with ha | ha
          · exact .inl ha
          · exact .inr (Bool.and_eq_true .. ▸ ha : _ ∧ _).1
        have ha2 : bs = [] ∨ l.all (fun (x : V) => x.cells.all (apartV s.st bs k)) = true := by
          rcases ha with ha | ha
          · exact .inl ha
          · have := (Bool.and_eq_true .. ▸ ha : _ ∧ _).2
            rw [hcon] at this
            exact .inr this
        have rcone : ∀ {u : Value} {c : V}, RC w (Moved η bs) F false u c → u.oneCell' = true → c.cells = [c] := fun {u c} hr hone => by
          cases hr with
          | s => cases u <;> first | rfl | (simp [Value.oneCell'] at hone)
          | agg => simp [Value.oneCell'] at hone
          | _ => rfl
        have one : ∀ (x y : V) (us : List Value), (x.cells.mapM (expV s.st k)).map (withCells x) = some y → (bs = [] ∨ x.cells.all (apartV s.st bs k) = true) → PW (RV (cx w0 I s.st w η)) us x.cells → (∀ u ∈ us, u.oneCell' = true) →
            y.cells.length = x.cells.length ∧ PW (RC w (Moved η bs) F false) us y.cells := fun x y us hm hap hpw hone => by
          obtain ⟨cs, hcs, rfl⟩ := Option.map_eq_some_iff.1 hm
          have hpc : PW (RC w (Moved η bs) F false) us cs := mapM_PW hcs hpw fun u x y hmm hr hf => exp_sound h hbs k x y u hf (hal _ hap x hmm) hr
          have hlen : cs.length = x.cells.length := by rw [← hpc.1, hpw.1]
          have hcc : (withCells x cs).cells = cs := by
            unfold withCells
            split
            · rfl
            · rfl
            · rename_i hn1 hn2
              have hx1 : x.cells = [x] := by
                unfold V.cells
                split
                · rename_i l'; exact absurd rfl (hn1 l')
                · rename_i cs'; exact absurd rfl (hn2 cs')
                · rfl
              rw [hx1] at hlen
              match cs, hlen, hpc with
              | [c], _, hpc =>
                obtain ⟨u, us', rfl, hr, _⟩ := hpc.uncons
                exact rcone hr (hone u (by simp))
          rw [hcc]
          exact ⟨hlen, hpc⟩
        have all : ∀ (l m : List V) (us : List Value), l.mapM (fun (x : V) => (x.cells.mapM (expV s.st k)).map (withCells x)) = some m → (bs = [] ∨ l.all (fun (x : V) => x.cells.all (apartV s.st bs k)) = true) → (∀ x ∈ l, x.cells.length = sz) → PW (RV (cx w0 I s.st w η)) us (flat l) → (∀ u ∈ us, u.oneCell' = true) →
            m.length = l.length ∧ (∀ y ∈ m, y.cells.length = sz) ∧ PW (RC w (Moved η bs) F false) us (flat m) := by
          intro l
          induction l with
          | nil =>
            intro m us hm _ _ hpw _
            simp at hm
            subst hm
            exact ⟨rfl, fun y hy => (by cases hy), by rw [hpw.nil_r]; exact PW.nil⟩
          | cons x l ih =>
            intro m us hm hap hsz hpw hone
            simp only [List.mapM_cons, Option.bind_eq_bind, Option.pure_def] at hm
            obtain ⟨y, hy, hm⟩ := Option.bind_eq_some_iff.1 hm
            obtain ⟨m', hm', hm⟩ := Option.bind_eq_some_iff.1 hm
            simp only [Option.some.injEq] at hm
            subst hm
            have hflat : flat (x :: l) = x.cells ++ flat l := rfl
            rw [hflat] at hpw
            have p1 := hpw.take x.cells.length
            have p2 := hpw.drop x.cells.length
            rw [List.take_left] at p1
            rw [List.drop_left] at p2
            have ap1 : bs = [] ∨ x.cells.all (apartV s.st bs k) = true := by
              rcases hap with hap | hap
              · exact .inl hap
              · simp only [List.all_cons, Bool.and_eq_true] at hap; exact .inr hap.1
            have ap2 : bs = [] ∨ l.all (fun (x : V) => x.cells.all (apartV s.st bs k)) = true := by
              rcases hap with hap | hap
              · exact .inl hap
              · simp only [List.all_cons, Bool.and_eq_true] at hap; exact .inr hap.2
            obtain ⟨q1, q2⟩ := one x y _ hy ap1 p1 (fun u hu => hone u (List.mem_of_mem_take hu))
            obtain ⟨r1, r2, r3⟩ := ih m' _ hm' ap2 (fun z hz => hsz z (by simp [hz])) p2 (fun u hu => hone u (List.mem_of_mem_drop hu))
            refine ⟨by simp [r1], fun z hz => ?_, ?_⟩
            · rcases List.mem_cons.1 hz with rfl | hz
              · rw [q1]; exact hsz x (by simp)
              · exact r2 z hz
            · have := q2.append r3
              rw [List.take_append_drop] at this
              exact this
        obtain ⟨m1, m2, m3⟩ := all l m us hm ha2 hu0 hp h1c
        rw [hA, ← m1]
        refine .lst _ false sz m A cp us (by omega) m2 m3.1 m3.2 h1c ?_
        rcases h5 with h5 | ⟨g, o, rfl, h7⟩
        · exact .inl h5
        · exact .inr ⟨g, o, rfl, hnot b g hlive ha1 (by rw [hv0]; rfl), fun h => (by cases h), h7⟩
      | some q =>
      obtain ⟨sz, e, l⟩ := q
      rw [hb] at hx
      simp only [Option.map_some, elseV_some, Option.some.injEq] at hx
      subst hx
      obtain ⟨_, ⟨l0, hc0⟩, hblk, hrow⟩ := own_sound h hu (b := b) (ver := ver) (sz := sz) (e := e) (l := l) (by simp [ownRow, hb])
      obtain ⟨A, cp, us, rfl, h1, h2, h3, h4, h5⟩ := hrow.elems
      have h3' := h3.imp fun u x hr => hmono hr
      refine .lst _ false sz l A cp us h1 h2 h3'.1 h3'.2 h4 ?_
      rcases h5 with h5 | ⟨g, o, rfl, h7⟩
      · exact .inl h5
      · exact .inr ⟨g, o, rfl, hnot b g (by rw [hc0]; rfl) (by
          rcases ha with ha | ha
          · exact .inl ha
          · exact .inr (Bool.and_eq_true .. ▸ ha : _ ∧ _).1) (hblk.symm.trans rfl), fun h => (by cases h), h7⟩
    case sp b ver sz off len =>
      obtain ⟨⟨sz', e, l⟩, hb, h2⟩ := Option.bind_eq_some_iff.1 hx
      simp only at h2
      split at h2
      case isFalse => cases h2
      rename_i hc
      simp only [Option.some.injEq] at h2
      subst h2
      obtain ⟨_, ⟨l0, hc0⟩, hblk, hrow⟩ := own_sound h hu (b := b) (ver := ver) (sz := sz') (e := e) (l := (l.drop off).take len) (by simp [ownRow, hb, hc])
      obtain ⟨A, cp, us, rfl, h1, h2, h3, h4, h5⟩ := hrow.elems
      have h3' := h3.imp fun u x hr => hmono hr
      rw [hc.1] at h2
      refine .lst _ false sz _ A cp us h1 h2 h3'.1 h3'.2 h4 ?_
      rcases h5 with h5 | ⟨g, o, rfl, h7⟩
      · exact .inl h5
      · exact .inr ⟨g, o, rfl, hnot b g (by rw [hc0]; rfl) ha (hblk.symm.trans rfl), fun h => (by cases h), h7⟩
    case bp b ver off len =>
      obtain ⟨cs, hb, h2⟩ := Option.bind_eq_some_iff.1 hx
      split at h2
      case isFalse => cases h2
      rename_i hc
      obtain ⟨hfit, hsc⟩ := hc
      simp only [Option.some.injEq] at h2
      subst h2
      obtain ⟨_, hcont, hl, g, o, cur, e, hη, hg, hp⟩ := look_box h hb
      obtain ⟨⟨A, cp, rfl, hlc⟩, _, hpo⟩ := hu.bp_inv
      have hll : ((cs.drop off).take len).length = len := by rw [List.length_take, List.length_drop]; omega
      have hs1 : ∀ x ∈ (cs.drop off).take len, ∃ v, x = .s v ∧ v.oneCell' = true := fun x hx => by
        have := List.all_eq_true.1 hsc x hx
        unfold V.scal1 at this
        split at this
        · exact ⟨_, rfl, this⟩
        · cases this
      have hone : ∀ x ∈ (cs.drop off).take len, x.cells = [x] := fun x hx => by
        obtain ⟨v, rfl, hv⟩ := hs1 x hx
        exact one_cells0 (x := .s v) (by simpa [V.one] using hv)
      have hfl := flat_s _ hone
      have hpp := (hp.drop off).take len
      have hp2 : PW (RC w (Moved η bs) F false) ((((cur.toList.drop o).take cs.length).drop off).take len) ((cs.drop off).take len) := hpp.impm fun u x hx hr => by
        obtain ⟨v, rfl, hv⟩ := hs1 x hx
        rw [hr.s_inv]; exact .s _ _
      have hr := RC.lst (w := w) (own := Moved η bs) (fresh := F) false false 1 ((cs.drop off).take len) A cp ((((cur.toList.drop o).take cs.length).drop off).take len) (by rw [hll]; exact hlc) (fun x hx => by rw [hone x hx]; rfl)
        (by rw [hfl]; exact hp2.1) (by rw [hfl]; exact hp2.2) (fun u hu => by
          obtain ⟨i, hi⟩ := List.getElem?_of_mem hu
          obtain ⟨x, hx, hr⟩ := hpp.getl hi
          obtain ⟨v, rfl, hv⟩ := hs1 x (List.mem_of_getElem? hx)
          rw [hr.s_inv]; exact hv) (by
          rcases hpo _ hl with h0 | ⟨g', o', cp', h1, h2⟩
          · left
            subst h0
            simp
          · rw [hη] at h1
            cases h1
            cases h2
            refine .inr ⟨g, _, rfl, hnot b g (by rw [hcont]; rfl) ha (by rw [hη]; rfl), fun h => (by cases h), fun j u hj => ?_⟩
            simp only [List.getElem?_take, List.getElem?_drop] at hj
            split at hj
            · split at hj
              · simp only [World.cell?, hg]
                simpa [Nat.add_assoc] using hj
              · cases hj
            · cases hj)
      rw [hll] at hr
      exact hr
    case ptr b ver off =>
      obtain ⟨cs, hb, h2⟩ := Option.bind_eq_some_iff.1 hx
      obtain ⟨l', hl', rfl⟩ := Option.map_eq_some_iff.1 h2
      obtain ⟨_, hcont, hl, g, o, cur, e, hη, hg, hp⟩ := look_box h hb
      obtain ⟨_, _, hp2⟩ := hu.ptr_inv
      obtain ⟨g', o', h1, rfl⟩ := hp2 _ hl
      rw [hη] at h1
      simp only [Value.pointer.injEq, Option.some.injEq, Addr.mk.injEq] at h1
      obtain ⟨rfl, rfl, _⟩ := h1
      have ha2 : bs = [] ∨ (!(bs.contains b)) = true := by
        rcases ha with ha | ha
        · exact .inl ha
        · simp only [Bool.and_eq_true] at ha; exact .inr ha.1
      have ha3 : bs = [] ∨ cs.all (apartV s.st bs k) = true := by
        rcases ha with ha | ha
        · exact .inl ha
        · simp only [Bool.and_eq_true, hcont] at ha; exact .inr ha.2
      have hpw := mapM_PW (R' := RC w (Moved η bs) F false) hl' (hp.drop off) fun u x y hm hr hf => exp_sound h hbs k x y u hf (hal cs ha3 x (List.mem_of_mem_drop hm)) hr
      refine .ept _ l' g (o + off) hpw.1 hpw.2 (.inr ⟨hnot b g (by rw [hcont]; rfl) ha2 (by rw [hη]; rfl), fun j u hj => ?_⟩)
      simp only [List.getElem?_drop, List.getElem?_take] at hj
      split at hj
      · simp only [World.cell?, hg]
        simpa [Nat.add_assoc] using hj
      · cases hj

theorem exp_notown {st : Nat → Blk} : ∀ (k : Nat) (x y : V), expV st k x = some y → y.isOwn = false := by
  intro k x y h
  cases k with
  | zero => simp [expV] at h
  | succ k =>
    cases x <;> simp only [expV, reduceCtorEq, Option.some.injEq] at h
    case s => subst h; rfl
    case lst => subst h; rfl
    case ept => subst h; rfl
    case agg => obtain ⟨_, _, rfl⟩ := Option.map_eq_some_iff.1 h; rfl
    case tup => obtain ⟨_, _, rfl⟩ := Option.map_eq_some_iff.1 h; rfl
    case fn => obtain ⟨_, _, rfl⟩ := Option.map_eq_some_iff.1 h; rfl
    case sw b ver len =>
      cases hb : rowAt st b ver with
      | some q =>
        rw [hb] at h
        simp only [Option.map_some, elseV_some, Option.some.injEq] at h
        subst h; rfl
      | none =>
        rw [hb] at h
        simp only [Option.map_none, elseV_none] at h
        obtain ⟨⟨_, _, _⟩, _, h⟩ := Option.bind_eq_some_iff.1 h
        obtain ⟨_, _, rfl⟩ := Option.map_eq_some_iff.1 h; rfl
    case sp =>
      obtain ⟨⟨_, _, _⟩, _, h⟩ := Option.bind_eq_some_iff.1 h
      simp only at h
      split at h <;> simp at h
      subst h; rfl
    case bp =>
      obtain ⟨_, _, h⟩ := Option.bind_eq_some_iff.1 h
      split at h <;> simp at h
      subst h; rfl
    case ptr =>
      obtain ⟨_, _, h⟩ := Option.bind_eq_some_iff.1 h
      obtain ⟨_, _, rfl⟩ := Option.map_eq_some_iff.1 h; rfl

theorem RC.scal {w w' : World} {own fresh own' fresh' : Nat → Prop} {k k' : Bool} {v : Value} {x : V} (hx : x.scal = true) (h : RC w own fresh k v x) : RC w' own' fresh' k' v x := by
  cases x <;> simp only [V.scal, reduceCtorEq, Bool.false_eq_true] at hx
  case s u => cases h; exact .s _ _
  case agg l =>
    cases h with
    | agg _ us _ hl he =>
      refine .agg _ us l hl fun i u y hu hy => ?_
      have := List.all_eq_true.1 hx y (List.mem_of_getElem? hy)
      split at this
      · have := he i u _ hu hy
        cases this
        exact .s _ _
      · cases this

theorem ArgR.of {w : World} {J : Nat → Prop} {u : Value} {x : V} (h : RC w J (Fresh w J) false u x) (hx : x.isOwn = false) : ArgR w J u x := by
  cases x <;> first | exact h | (simp [V.isOwn] at hx)

theorem RowR.scal {w w' : World} {own fresh own' fresh' : Nat → Prop} {v : Value} {sz e : Nat} {l : List V} (hl : l.all V.scal = true) (h : RowR w own fresh v sz e l) (hs : ∀ g, blkOf v = some g → w'.heap[g]? = w.heap[g]?) : RowR w' own' fresh' v sz e l := by
  obtain ⟨us, ho, hu, hp, h1⟩ := h
  exact ⟨us, ho.same hs, hu, scal_RC hl hp, h1⟩

theorem movC_sound (h : Rel w0 I n s a w η) : ∀ (cs cs' : List V) (bs : List Nat) (us : List Value), movC s.st cs = some (cs', bs) → PW (RV (cx w0 I s.st w η)) us cs →
    PW (CellR w) us cs' ∧ (∀ b ∈ bs, (s.st b).c.live = true) ∧
    (∀ (j : Nat) (u : Value) (sz e : Nat) (l : List V) (g : Nat), us[j]? = some u → cs'[j]? = some (V.own sz e l) → blkOf u = some g → ∃ b ∈ bs, blkOf (η b) = some g) ∧
    (bs.Nodup → ∀ (i j : Nat) (u u' : Value) (sz e : Nat) (l : List V) (sz' e' : Nat) (l' : List V) (g : Nat), us[i]? = some u → us[j]? = some u' → cs'[i]? = some (V.own sz e l) → cs'[j]? = some (V.own sz' e' l') → blkOf u = some g → blkOf u' = some g → i = j)
  | [], cs', bs, us, hm, hp => by
    simp only [movC, Option.some.injEq, Prod.mk.injEq] at hm
    obtain ⟨rfl, rfl⟩ := hm
    rw [hp.nil_r]
    exact ⟨PW.nil, fun b hb => by simp at hb, fun j u sz e l g hj => by simp at hj, fun _ i j u u' sz e l sz' e' l' g hi => by simp at hi⟩
  | c :: r, cs', bs, us, hm, hp => by
    obtain ⟨u, us', rfl, h1, h2⟩ := hp.uncons
    simp only [movC] at hm
    obtain ⟨⟨cs2, bs2⟩, hr, hm2⟩ := Option.bind_eq_some_iff.1 hm
    obtain ⟨i1, i2, i3, i4⟩ := movC_sound h r cs2 bs2 us' hr h2
    simp only at hm2
    split at hm2
    · simp only [Option.some.injEq, Prod.mk.injEq] at hm2
      obtain ⟨rfl, rfl⟩ := hm2
      refine ⟨PW.cons h1.s_inv i1, i2, fun j u sz e l g hj hc hg => ?_, fun hn i j u u' sz e l sz' e' l' g hi hj hci hcj hg hg' => ?_⟩
      · cases j with
        | zero => simp at hc
        | succ j => exact i3 j u sz e l g (by simpa using hj) (by simpa using hc) hg
      · cases i with
        | zero => simp at hci
        | succ i => cases j with
          | zero => simp at hcj
          | succ j => rw [i4 hn i j u u' sz e l sz' e' l' g (by simpa using hi) (by simpa using hj) (by simpa using hci) (by simpa using hcj) hg hg']
    · rename_i c _
      obtain ⟨⟨b, ver, sz, e, l⟩, ho, hm3⟩ := Option.bind_eq_some_iff.1 hm2
      simp only at hm3
      split at hm3
      case isFalse => cases hm3
      rename_i hsc
      simp only [Option.some.injEq, Prod.mk.injEq] at hm3
      obtain ⟨rfl, rfl⟩ := hm3
      obtain ⟨_, ⟨l0, hc0⟩, hblk, hrow⟩ := own_sound h h1 ho
      have hbl : (s.st b).c.live = true := by rw [hc0]; rfl
      refine ⟨PW.cons ⟨hsc, hrow.scal hsc fun _ _ => rfl⟩ i1, fun b' hb' => ?_, fun j u' sz' e' l' g hj hc hg => ?_, fun hn i j v v' sz1 e1 l1 sz2 e2 l2 g hi hj hci hcj hg hg' => ?_⟩
      · rcases List.mem_cons.1 hb' with rfl | hb'
        · exact hbl
        · exact i2 b' hb'
      · cases j with
        | zero => simp at hj; subst hj; exact ⟨b, by simp, hblk ▸ hg⟩
        | succ j =>
          obtain ⟨b', hb', hg'⟩ := i3 j u' sz' e' l' g (by simpa using hj) (by simpa using hc) hg
          exact ⟨b', by simp [hb'], hg'⟩
      · have hn2 := List.nodup_cons.1 hn
        have clash : ∀ (j : Nat) (v : Value) (sz e : Nat) (l : List V) (g : Nat), us'[j]? = some v → cs2[j]? = some (V.own sz e l) → blkOf v = some g → blkOf u = some g → False := fun j v sz e l g hj hc hg hgu => by
          obtain ⟨b', hb', hg'⟩ := i3 j v sz e l g hj hc hg
          have := h.sep b b' g hbl (i2 b' hb') (hblk ▸ hgu) hg'
          subst this
          exact hn2.1 hb'
        cases i with
        | zero =>
          simp at hi
          subst hi
          cases j with
          | zero => rfl
          | succ j => exact (clash j v' sz2 e2 l2 g (by simpa using hj) (by simpa using hcj) hg' hg).elim
        | succ i => cases j with
          | zero =>
            simp at hj
            subst hj
            exact (clash i v sz1 e1 l1 g (by simpa using hi) (by simpa using hci) hg hg').elim
          | succ j => rw [i4 hn2.2 i j v v' sz1 e1 l1 sz2 e2 l2 g (by simpa using hi) (by simpa using hj) (by simpa using hci) (by simpa using hcj) hg hg']

theorem box_sound (h : Rel w0 I n s a w η) {b ver : Nat} {u : Value} {cs cs' : List V} {bs : List Nat} (hu : RV (cx w0 I s.st w η) u (.ptr b ver 0)) (hb : boxAt s.st b ver = some cs) (hm : movC s.st cs = some (cs', bs)) (hn : (b :: bs).Nodup)
    {D : Nat → Prop} (hD : ∀ q ∈ b :: bs, ∀ g, (s.st q).c.live = true → blkOf (η q) = some g → D g) : BoxR w D u cs' ∧ (∀ q ∈ b :: bs, (s.st q).c.live = true) ∧ u = η b := by
  obtain ⟨_, hcont, hl, g, o, cur, e, hη, hg, hp⟩ := look_box h hb
  obtain ⟨_, _, hpo⟩ := hu.ptr_inv
  obtain ⟨g', o', h1, rfl⟩ := hpo _ hl
  rw [hη] at h1
  cases h1
  have hbl : (s.st b).c.live = true := by rw [hcont]; rfl
  have hlen : cs'.length = cs.length := by
    have := (movC_sound h cs cs' bs _ hm hp).1.1
    rw [← this, hp.1]
  obtain ⟨i1, i2, i3, i4⟩ := movC_sound h cs cs' bs _ hm hp
  have hn2 := List.nodup_cons.1 hn
  refine ⟨⟨g, o, cur, e, _, rfl, hg, hD b (by simp) g hbl (by rw [hη]; rfl), by rw [hlen], i1, fun j u sz e l g' hj hc hg' => ?_, i4 hn2.2⟩, fun q hq => ?_, by rw [hη]; rfl⟩
  · obtain ⟨q, hq, hgq⟩ := i3 j u sz e l g' hj hc hg'
    refine ⟨hD q (by simp [hq]) g' (i2 q hq) hgq, fun heq => ?_⟩
    subst heq
    have := h.sep q b g' (i2 q hq) hbl hgq (by rw [hη]; rfl)
    subst this
    exact hn2.1 hq
  · rcases List.mem_cons.1 hq with rfl | hq
    · exact hbl
    · exact i2 q hq

theorem movV_sound (h : Rel w0 I n s a w η) {x y : V} {bs : List Nat} {u : Value} (hm : movV s.st x = some (y, bs)) (hu : RV (cx w0 I s.st w η) u x) : ArgR w (Moved η bs) u y ∧ (∀ b ∈ bs, (s.st b).c.live = true) ∧ y.isOwn = true ∧ ∀ cs, y = .obx cs → cs.length ≤ 1000 := by
  unfold movV at hm
  split at hm
  · rename_i b ver
    obtain ⟨cs, hb, h2⟩ := Option.bind_eq_some_iff.1 hm
    obtain ⟨⟨cs', bs'⟩, hc, h3⟩ := Option.bind_eq_some_iff.1 h2
    simp only at h3
    split at h3
    case isFalse => cases h3
    rename_i hn
    obtain ⟨hn, hsm⟩ := hn
    simp only [Option.some.injEq, Prod.mk.injEq] at h3
    obtain ⟨rfl, rfl⟩ := h3
    obtain ⟨h4, h5, _⟩ := box_sound h hu hb hc hn (D := Moved η (b :: bs')) fun q hq g _ hg => ⟨q, hq, hg⟩
    exact ⟨h4, h5, rfl, fun cs hcs => by cases hcs; exact hsm⟩
  · obtain ⟨⟨b, ver, sz, e, l⟩, ho, h2⟩ := Option.bind_eq_some_iff.1 hm
    simp only at h2
    split at h2
    case isFalse => cases h2
    rename_i hsc
    simp only [Option.some.injEq, Prod.mk.injEq] at h2
    obtain ⟨rfl, rfl⟩ := h2
    obtain ⟨_, ⟨l0, hc0⟩, hblk, hrow⟩ := own_sound h hu ho
    refine ⟨⟨hrow.scal hsc fun _ _ => rfl, fun g hg => ⟨b, by simp, hblk ▸ hg⟩⟩, fun b' hb' => ?_, rfl, fun cs hcs => by cases hcs⟩
    simp at hb'
    subst hb'
    rw [hc0]; rfl

theorem args_live (h : Rel w0 I n s a w η) : ∀ (xs : List V) (mv : List Bool) (ys : List V) (bs : List Nat) (us : List Value), argsV s.st mv xs = some (ys, bs) → PW (RV (cx w0 I s.st w η)) us xs → (∀ b ∈ bs, (s.st b).c.live = true)
  | [], mv, ys, bs, us, hx, hp => by
    simp only [argsV, Option.some.injEq, Prod.mk.injEq] at hx
    obtain ⟨rfl, rfl⟩ := hx
    exact fun b hb => by simp at hb
  | x :: xs, mv, ys, bs, us, hx, hp => by
    obtain ⟨u, us', rfl, h1, h2⟩ := hp.uncons
    simp only [argsV] at hx
    obtain ⟨⟨ys', bs'⟩, ht, hx2⟩ := Option.bind_eq_some_iff.1 hx
    have ih := args_live h xs mv.tail ys' bs' us' ht h2
    simp only at hx2
    split at hx2
    · obtain ⟨⟨y, b⟩, hy, hx3⟩ := Option.bind_eq_some_iff.1 hx2
      simp only at hx3
      split at hx3
      case isFalse => cases hx3
      simp only [Option.some.injEq, Prod.mk.injEq] at hx3
      obtain ⟨rfl, rfl⟩ := hx3
      exact (movV_sound h hy h1).2.1
    · obtain ⟨y, hy, hx3⟩ := Option.bind_eq_some_iff.1 hx2
      simp only [Option.some.injEq, Prod.mk.injEq] at hx3
      obtain ⟨rfl, rfl⟩ := hx3
      exact ih

theorem args_none {st : Nat → Blk} : ∀ (xs : List V) (mv : List Bool) (ys : List V), argsV st mv xs = some (ys, []) → ∀ y ∈ ys, y.isOwn = false
  | [], mv, ys, hx => by
    simp only [argsV, Option.some.injEq, Prod.mk.injEq] at hx
    obtain ⟨rfl, _⟩ := hx
    exact fun y hy => by simp at hy
  | x :: xs, mv, ys, hx => by
    simp only [argsV] at hx
    obtain ⟨⟨ys', bs'⟩, ht, hx2⟩ := Option.bind_eq_some_iff.1 hx
    simp only at hx2
    split at hx2
    · obtain ⟨⟨y, b⟩, hy, hx3⟩ := Option.bind_eq_some_iff.1 hx2
      simp only at hx3
      split at hx3
      case isFalse => cases hx3
      simp only [Option.some.injEq, Prod.mk.injEq] at hx3
      obtain ⟨rfl, rfl⟩ := hx3
      exfalso
      unfold movV at hy
      split at hy
      · obtain ⟨cs, hb, h2⟩ := Option.bind_eq_some_iff.1 hy
        obtain ⟨⟨cs', bs'⟩, hc, h3⟩ := Option.bind_eq_some_iff.1 h2
        simp only at h3
        split at h3 <;> simp at h3
      · obtain ⟨⟨b, ver, sz, e, l⟩, ho, h2⟩ := Option.bind_eq_some_iff.1 hy
        simp only at h2
        split at h2 <;> simp at h2
    · obtain ⟨y, hy, hx3⟩ := Option.bind_eq_some_iff.1 hx2
      simp only [Option.some.injEq, Prod.mk.injEq] at hx3
      obtain ⟨rfl, rfl⟩ := hx3
      have ih := args_none xs mv.tail ys' ht
      intro z hz
      rcases List.mem_cons.1 hz with rfl | hz
      · exact exp_notown _ _ _ hy
      · exact ih z hz

theorem args_sound (h : Rel w0 I n s a w η) {B : List Nat} (hB : ∀ b ∈ B, (s.st b).c.live = true) : ∀ (xs : List V) (mv : List Bool) (ys : List V) (bs : List Nat) (us : List Value), argsV s.st mv xs = some (ys, bs) → (bs = [] ∨ bs = B) → (B = [] ∨ (argsApart s.st B mv xs = true ∧ ys.length ≤ 1000)) → PW (RV (cx w0 I s.st w η)) us xs →
    Args w (Moved η B) us ys
  | [], mv, ys, bs, us, hx, _, _, hp => by
    simp only [argsV, Option.some.injEq, Prod.mk.injEq] at hx
    obtain ⟨rfl, rfl⟩ := hx
    rw [hp.nil_r]
    exact ⟨PW.nil, fun i j x y hi => by simp at hi, fun i x hi => by simp at hi⟩
  | x :: xs, mv, ys, bs, us, hx, hbB, hap, hp => by
    obtain ⟨u, us', rfl, h1, h2⟩ := hp.uncons
    simp only [argsV] at hx
    obtain ⟨⟨ys', bs'⟩, ht, hx2⟩ := Option.bind_eq_some_iff.1 hx
    have hap2 : ys.length = ys'.length + 1 → B = [] ∨ (argsApart s.st B mv.tail xs = true ∧ ys'.length ≤ 1000) := fun hl => by
      rcases hap with hap | hap
      · exact .inl hap
      · simp only [argsApart, Bool.and_eq_true] at hap; exact .inr ⟨hap.1.1, by omega⟩
    simp only at hx2
    split at hx2
    · obtain ⟨⟨y, b⟩, hy, hx3⟩ := Option.bind_eq_some_iff.1 hx2
      simp only at hx3
      split at hx3
      case isFalse => cases hx3
      rename_i hb0
      subst hb0
      simp only [Option.some.injEq, Prod.mk.injEq] at hx3
      obtain ⟨rfl, rfl⟩ := hx3
      have ih := args_sound h hB xs mv.tail ys' [] us' ht (.inl rfl) (hap2 rfl) h2
      have hno := args_none xs mv.tail ys' ht
      obtain ⟨h3, _, h4, h5⟩ := movV_sound h hy h1
      have hbB' : b = B := by
        rcases hbB with hbB | hbB
        · subst hbB
          exfalso
          unfold movV at hy
          split at hy
          · obtain ⟨cs, hb, h2⟩ := Option.bind_eq_some_iff.1 hy
            obtain ⟨⟨cs', bs'⟩, hc, h3⟩ := Option.bind_eq_some_iff.1 h2
            simp only at h3
            split at h3 <;> simp at h3
          · obtain ⟨⟨b, ver, sz, e, l⟩, ho, h2⟩ := Option.bind_eq_some_iff.1 hy
            simp only at h2
            split at h2 <;> simp at h2
        · exact hbB
      subst hbB'
      refine ⟨PW.cons h3 ih.pw, fun i j x y hi hj hxo hyo => ?_, fun i x hi hxo => ?_⟩
      rotate_left
      · cases i with
        | zero => simp at hi; subst hi; exact ⟨by omega, h5⟩
        | succ i => simp at hi; rw [hno x (List.mem_of_getElem? hi)] at hxo; cases hxo
      cases i with
      | zero => cases j with
        | zero => rfl
        | succ j => simp at hj; rw [hno y (List.mem_of_getElem? hj)] at hyo; cases hyo
      | succ i => simp at hi; rw [hno x (List.mem_of_getElem? hi)] at hxo; cases hxo
    · rename_i hmv
      obtain ⟨y, hy, hx3⟩ := Option.bind_eq_some_iff.1 hx2
      simp only [Option.some.injEq, Prod.mk.injEq] at hx3
      obtain ⟨rfl, rfl⟩ := hx3
      have ih := args_sound h hB xs mv.tail ys' bs' us' ht hbB (hap2 rfl) h2
      have hno := exp_notown _ _ _ hy
      have hap3 : B = [] ∨ apartV s.st B 4 x = true := by
        rcases hap with hap | hap
        · exact .inl hap
        · simp only [argsApart, Bool.and_eq_true, hmv, Bool.false_or] at hap; exact .inr hap.1.2
      have hlen : B = [] ∨ ys'.length + 1 ≤ 1000 := by
        rcases hap with hap | hap
        · exact .inl hap
        · exact .inr hap.2
      refine ⟨PW.cons (ArgR.of (exp_sound h hB 4 _ y u hy hap3 h1) hno) ih.pw, fun i j x y hi hj hxo hyo => ?_, fun i x hi hxo => ?_⟩
      rotate_left
      · cases i with
        | zero => simp at hi; subst hi; rw [hno] at hxo; cases hxo
        | succ i =>
          have hi' : ys'[i]? = some x := by simpa using hi
          refine ⟨?_, (ih.small i x hi' hxo).2⟩
          rcases hlen with hlen | hlen
          · exfalso
            subst hlen
            have hb0 : bs' = [] := by rcases hbB with h | h <;> exact h
            subst hb0
            have := args_none xs mv.tail ys' ht x (List.mem_of_getElem? hi')
            rw [this] at hxo; cases hxo
          · have := (List.getElem?_eq_some_iff.1 hi').1
            omega
      cases i with
      | zero => simp at hi; subst hi; rw [hno] at hxo; cases hxo
      | succ i => cases j with
        | zero => simp at hj; subst hj; rw [hno] at hyo; cases hyo
        | succ j => rw [ih.one i j x y (by simpa using hi) (by simpa using hj) hxo hyo]

theorem ups_gone (st : Nat → Blk) : ∀ (bs : List Nat) (st' : Nat → Blk) (j : Nat), (∀ b, (st' b).ver = (st b).ver) →
    (ups st' (bs.map fun b => (b, ⟨(st b).ver, Cont.gone⟩)) j).ver = (st j).ver ∧ (j ∈ bs → (ups st' (bs.map fun b => (b, ⟨(st b).ver, Cont.gone⟩)) j).c.live = false) ∧ (j ∉ bs → ups st' (bs.map fun b => (b, ⟨(st b).ver, Cont.gone⟩)) j = st' j)
  | [], st', j, h => ⟨h j, fun hj => by simp at hj, fun _ => rfl⟩
  | b :: bs, st', j, h => by
    have ih := ups_gone st bs (upd st' b ⟨(st b).ver, Cont.gone⟩) j (fun q => by simp only [upd]; split <;> simp_all)
    simp only [List.map_cons, ups]
    refine ⟨ih.1, fun hj => ?_, fun hj => ?_⟩
    · by_cases hb : j ∈ bs
      · exact ih.2.1 hb
      · rw [ih.2.2 hb]
        have : j = b := by simpa [hb] using hj
        subst this
        simp [upd, Cont.live]
    · simp only [List.mem_cons, not_or] at hj
      rw [ih.2.2 hj.2]
      simp [upd, hj.1]
theorem ups_append (l m : List (Nat × Blk)) : ∀ st, ups st (l ++ m) = ups (ups st l) m := by
  induction l with
  | nil => intro st; rfl
  | cons p l ih => intro st; obtain ⟨b, k⟩ := p; simp only [List.cons_append, ups]; exact ih _

/-- the rows that hang in a box that is handed back -/
theorem hang_len (st : Nat → Blk) (b : Nat) : ∀ (cs : List V) (j : Nat), (hang st b j cs).1.length = cs.length
  | [], j => by simp [hang]
  | c :: r, j => by cases c <;> simp [hang, hang_len st b r (j + 1)]
theorem hang_get (st : Nat → Blk) (b : Nat) : ∀ (cs : List V) (j i : Nat), (hang st b j cs).1[i]? = (cs[i]?).map fun c => match c with
    | .own _ _ l => .sw (nest b (j + i)) ((st (nest b (j + i))).ver + 1) l.length
    | c => c
  | [], j, i => by simp [hang]
  | c :: r, j, i => by
    cases i with
    | zero => cases c <;> simp [hang]
    | succ i =>
      have e : j + 1 + i = j + (i + 1) := by omega
      cases c <;> (simp only [hang, List.getElem?_cons_succ]; rw [hang_get st b r (j + 1) i, e])
theorem hang_ups (st : Nat → Blk) (b : Nat) : ∀ (cs : List V) (j : Nat) (S : Nat → Blk) (q : Nat), ups S (hang st b j cs).2 q = (match (if nest b j ≤ q then cs[q - nest b j]? else none) with
    | some (.own sz e l) => ⟨(st q).ver + 1, .row sz e l⟩
    | _ => S q)
  | [], j, S, q => by simp [hang, ups]
  | c :: r, j, S, q => by
    have hn : nest b (j + 1) = nest b j + 1 := by unfold nest; omega
    have tail : ∀ S', (q = nest b j → (match c with | .own sz e l => (⟨(st q).ver + 1, .row sz e l⟩ : Blk) | _ => S q) = S' q) → (q ≠ nest b j → S' q = S q) → ups S' (hang st b (j + 1) r).2 q = (match (if nest b j ≤ q then (c :: r)[q - nest b j]? else none) with
        | some (.own sz e l) => (⟨(st q).ver + 1, .row sz e l⟩ : Blk)
        | _ => S q) := fun S' h1 h2 => by
      rw [hang_ups st b r (j + 1) S' q, hn]
      by_cases hq : q = nest b j
      · subst hq
        rw [if_neg (by omega), if_pos (Nat.le_refl _), Nat.sub_self, List.getElem?_cons_zero]
        simp only
        rw [← h1 rfl]
        cases c <;> rfl
      · by_cases hle : nest b j ≤ q
        · have e : q - nest b j = (q - (nest b j + 1)) + 1 := by omega
          rw [if_pos (by omega), if_pos hle, e, List.getElem?_cons_succ]
          rw [h2 hq]
        · rw [if_neg (by omega), if_neg hle]
          exact h2 hq
    cases c <;> simp only [hang]
    case own sz e l =>
      simp only [ups]
      refine tail _ (fun hq => ?_) (fun hq => ?_)
      · subst hq; simp [upd]
      · simp [upd, hq]
    all_goals exact tail S (fun _ => rfl) (fun _ => rfl)

/-- behind a call: what was handed over is gone, the blocks N are as the called function leaves them -/
theorem after_call (h : Rel w0 I n ⟨env, st⟩ a w η) {bs : List Nat} (hlive : ∀ b ∈ bs, (st b).c.live = true) (hfr : Fr w (Moved η bs) w') {st' : Nat → Blk} {η' : Nat → Value} (N : Nat → Prop)
    (hst : ∀ j, j ∉ bs → ¬ N j → st' j = st j ∧ η' j = η j) (hgone : ∀ j, j ∈ bs → ¬ N j → (st' j).c.live = false ∧ (st j).ver ≤ (st' j).ver)
    (hver : ∀ j, N j → (st j).ver < (st' j).ver ∨ ((st j).ver = (st' j).ver ∧ η' j = η j ∧ (st j).c.live = true))
    (hblk : ∀ j g, N j → blkOf (η' j) = some g → Fresh w (Moved η bs) g)
    (hsep : ∀ j j' g, N j → N j' → blkOf (η' j) = some g → blkOf (η' j') = some g → j = j')
    (hBR : (cx w0 I st w η).le (cx w0 I st' w' η') → (∀ g, Fresh w (Moved η bs) g → (∀ j, N j → blkOf (η' j) ≠ some g) → ¬ (cx w0 I st' w' η').own g ∧ (cx w0 I st' w' η').fresh g) → ∀ j, N j → BR (cx w0 I st' w' η') (η' j) (st' j).c) :
    Rel w0 I n ⟨env, st'⟩ a w' η' ∧ (cx w0 I st w η).le (cx w0 I st' w' η') ∧ (∀ g, Fresh w (Moved η bs) g → (∀ j, N j → blkOf (η' j) ≠ some g) → ¬ (cx w0 I st' w' η').own g ∧ (cx w0 I st' w' η').fresh g) := by
  have hJlt : ∀ g, Moved η bs g → g < w.heap.size ∧ (w0.heap.size ≤ g ∨ I.i g) := fun g ⟨b, hb, hg⟩ => ⟨h.lt (hlive b hb) hg, h.old b g (hlive b hb) hg⟩
  have hheap : ∀ g, g < w.heap.size → w'.heap[g]? ≠ w.heap[g]? → ∃ b, b ∈ bs ∧ (st b).c.live = true ∧ blkOf (η b) = some g := fun g hg hne => by
    by_cases hJ : Moved η bs g
    · obtain ⟨b, hb, hg'⟩ := hJ
      exact ⟨b, hb, hlive b hb, hg'⟩
    · exact absurd (hfr.block g hg hJ) hne
  have hfresh : ∀ g, Fresh w (Moved η bs) g → (∀ j, N j → blkOf (η' j) ≠ some g) → ¬ (cx w0 I st' w' η').own g ∧ (cx w0 I st' w' η').fresh g := fun g hf hN => by
    refine ⟨fun ⟨b, hb, hg⟩ => ?_, ?_⟩
    · by_cases hNb : N b
      · exact hN b hNb hg
      · by_cases hbb : b ∈ bs
        · rw [(hgone b hbb hNb).1] at hb; cases hb
        · obtain ⟨e1, e2⟩ := hst b hbb hNb
          rw [e1] at hb
          rw [e2] at hg
          rcases hf with hf | ⟨b1, hb1, hg1⟩
          · have := h.lt hb hg; omega
          · exact hbb (h.sep b1 b g (hlive b1 hb1) hb hg1 hg ▸ hb1)
    · rcases hf with hf | hf
      · exact .inl (Nat.le_trans h.fr.size hf)
      · exact (hJlt g hf).2
  obtain ⟨h6, hle⟩ := h.step (st' := st') (w' := w') (η' := η') (fun j => j ∈ bs ∨ N j)
    hfr.os hfr.tape hfr.output hfr.size
    (fun j hj => by simp only [not_or] at hj; exact hst j hj.1 hj.2)
    (fun j hj => by
      by_cases hN : N j
      · rcases hver j hN with h1 | h1 <;> omega
      · rcases hj with hj | hj
        · exact (hgone j hj hN).2
        · exact absurd hj hN)
    (fun j hj hl => by
      by_cases hN : N j
      · rcases hver j hN with h1 | ⟨_, h1, h2⟩
        · exact .inl h1
        · exact .inr ⟨h1, h2⟩
      · rcases hj with hj | hj
        · rw [(hgone j hj hN).1] at hl; cases hl
        · exact absurd hj hN)
    (fun g hg hne => by obtain ⟨b, h1, h2, h3⟩ := hheap g hg hne; exact ⟨b, .inl h1, h2, h3⟩)
    (fun j g hj hl hg => by
      by_cases hN : N j
      · rcases hblk j g hN hg with h1 | ⟨b, hb, h1⟩
        · exact .inl h1
        · exact .inr ⟨b, .inl hb, hlive b hb, h1⟩
      · rcases hj with hj | hj
        · rw [(hgone j hj hN).1] at hl; cases hl
        · exact absurd hj hN)
    (fun j j' g hj hj' hl hl' hg hg' => by
      have key : ∀ q, (q ∈ bs ∨ N q) → (st' q).c.live = true → N q := fun q hq hql => Classical.byContradiction fun hN => by
        rcases hq with hq | hq
        · rw [(hgone q hq hN).1] at hql; cases hql
        · exact hN hq
      exact hsep j j' g (key j hj hl) (key j' hj' hl') hg hg')
    (fun hle j hj hl => by
      have hN : N j := Classical.byContradiction fun hN => by
        rcases hj with hj | hj
        · rw [(hgone j hj hN).1] at hl; cases hl
        · exact hN hj
      exact hBR hle hfresh j hN)
  exact ⟨h6, hle, hfresh⟩

theorem RC.scalT {w w' : World} {own fresh own' fresh' : Nat → Prop} {k k' : Bool} {v : Value} {x : V} (hx : x.scalT = true) (h : RC w own fresh k v x) : RC w' own' fresh' k' v x := by
  cases x <;> simp only [V.scalT, reduceCtorEq, Bool.false_eq_true] at hx
  case s u => cases h; exact .s _ _
  case agg l =>
    cases h with
    | agg _ us _ hl he =>
      refine .agg _ us l hl fun i u y hu hy => ?_
      have := List.all_eq_true.1 hx y (List.mem_of_getElem? hy)
      split at this
      · have := he i u _ hu hy
        cases this
        exact .s _ _
      · cases this
  case tup l =>
    cases h with
    | tup _ us _ hl he =>
      refine .tup _ us l hl fun i u y hu hy => ?_
      have := List.all_eq_true.1 hx y (List.mem_of_getElem? hy)
      split at this
      · have := he i u _ hu hy
        cases this
        exact .s _ _
      · cases this

/-- a box that comes back, at the place d -/
theorem box_back (h : Rel w0 I n ⟨env, st⟩ a w η) {bs : List Nat} (hlive : ∀ b ∈ bs, (st b).c.live = true) (hfr : Fr w (Moved η bs) w') {d ver : Nat} {v : Value} {cs : List V} (hbox : BoxR w' (Fresh w (Moved η bs)) v cs)
    (hd : (st d).ver < ver ∨ ((st d).ver = ver ∧ v = η d ∧ (st d).c.live = true)) (S : Nat → Blk) (hS : S = ups st ((bs.map fun b => (b, (⟨(st b).ver, Cont.gone⟩ : Blk))) ++ ((hang st d 0 cs).2 ++ [(d, ⟨ver, .box (hang st d 0 cs).1⟩)]))) :
    ∃ η', Rel w0 I n ⟨env, S⟩ a w' η' ∧ RV (cx w0 I S w' η') v (.ptr d ver 0) ∧ (cx w0 I st w η).le (cx w0 I S w' η') := by
  obtain ⟨g, o, cur, e, us, rfl, hg, hDg, hus, hpw, hnest, hsepc⟩ := hbox
  have hgone := fun j => ups_gone st bs st j (fun _ => rfl)
  have hnb : ∀ j, d < nest d j := fun j => by unfold nest; omega
  have hSt : ∀ q, S q = if q = d then ⟨ver, .box (hang st d 0 cs).1⟩ else (match (if nest d 0 ≤ q then cs[q - nest d 0]? else none) with
      | some (.own sz e l) => ⟨(st q).ver + 1, .row sz e l⟩
      | _ => ups st (bs.map fun b => (b, (⟨(st b).ver, Cont.gone⟩ : Blk))) q) := fun q => by
    rw [hS, ups_append, ups_append]
    simp only [ups, upd]
    split
    · rfl
    · rw [hang_ups]
  -- the blocks that are new
  let N : Nat → Prop := fun q => q = d ∨ ∃ i sz e l u, q = nest d i ∧ cs[i]? = some (V.own sz e l) ∧ us[i]? = some u
  have hN : ∀ q i sz e l, q = nest d i → cs[i]? = some (V.own sz e l) → S q = ⟨(st q).ver + 1, .row sz e l⟩ := fun q i sz e l hq hc => by
    have e1 : nest d 0 ≤ q := by rw [hq]; unfold nest; omega
    have e2 : q - nest d 0 = i := by rw [hq]; unfold nest; omega
    have e3 : q ≠ d := by have := hnb i; omega
    rw [hSt, if_neg e3, if_pos e1, e2, hc]
  have hNo : ∀ q, ¬ N q → S q = ups st (bs.map fun b => (b, (⟨(st b).ver, Cont.gone⟩ : Blk))) q := fun q hq => by
    rw [hSt, if_neg fun hqd => hq (.inl hqd)]
    split
    · rename_i sz e l hx
      exfalso
      split at hx
      · rename_i hle
        obtain ⟨u, hu, _⟩ := hpw.get hx
        exact hq (.inr ⟨q - nest d 0, sz, e, l, u, by unfold nest at hle ⊢; omega, hx, hu⟩)
      · cases hx
    · rfl
  let η' : Nat → Value := fun q => if q = d then .pointer (some ⟨g, o, none⟩) else if nest d 0 ≤ q then (match cs[q - nest d 0]?, us[q - nest d 0]? with
      | some (.own _ _ _), some u => u
      | _, _ => η q) else η q
  have hη1 : η' d = .pointer (some ⟨g, o, none⟩) := if_pos rfl
  have hη2 : ∀ q i sz e l u, q = nest d i → cs[i]? = some (V.own sz e l) → us[i]? = some u → η' q = u := fun q i sz e l u hq hc hu => by
    have e1 : nest d 0 ≤ q := by rw [hq]; unfold nest; omega
    have e2 : q - nest d 0 = i := by rw [hq]; unfold nest; omega
    have e3 : q ≠ d := by have := hnb i; omega
    simp only [η', if_neg e3, if_pos e1, e2, hc, hu]
  have hη3 : ∀ q, ¬ N q → η' q = η q := fun q hq => by
    simp only [η']
    rw [if_neg fun hqd => hq (.inl hqd)]
    split
    · rename_i hle
      split
      · rename_i sz e l u hc hu
        exact absurd (.inr ⟨q - nest d 0, sz, e, l, u, by unfold nest at hle ⊢; omega, hc, hu⟩) hq
      · rfl
    · rfl
  have hlenc : (hang st d 0 cs).1.length = cs.length := hang_len st d cs 0
  obtain ⟨h6, hle, hfr2⟩ := after_call h hlive hfr (st' := S) (η' := η') N
    (fun j hj hNj => ⟨by rw [hNo j hNj]; exact (hgone j).2.2 hj, hη3 j hNj⟩)
    (fun j hj hNj => by rw [hNo j hNj]; exact ⟨(hgone j).2.1 hj, by rw [(hgone j).1]; exact Nat.le_refl _⟩)
    (fun j hNj => by
      rcases hNj with rfl | ⟨i, sz, e, l, u, hq, hc, hu⟩
      · rw [hSt, if_pos rfl, hη1]; exact hd
      · rw [hN j i sz e l hq hc]; exact .inl (by simp))
    (fun j g' hNj hg' => by
      rcases hNj with rfl | ⟨i, sz, e, l, u, hq, hc, hu⟩
      · rw [hη1] at hg'; simp [blkOf] at hg'; subst hg'; exact hDg
      · rw [hη2 j i sz e l u hq hc hu] at hg'; exact (hnest i u sz e l g' hu hc hg').1)
    (fun j j' g' hNj hNj' hg' hg2 => by
      rcases hNj with rfl | ⟨i, sz, e, l, u, hq, hc, hu⟩
      · rcases hNj' with rfl | ⟨i', sz', e', l', u', hq', hc', hu'⟩
        · rfl
        · rw [hη2 j' i' sz' e' l' u' hq' hc' hu'] at hg2
          rw [hη1] at hg'
          simp [blkOf] at hg'
          exact absurd hg' ((hnest i' u' sz' e' l' g' hu' hc' hg2).2).symm
      · rw [hη2 j i sz e l u hq hc hu] at hg'
        rcases hNj' with rfl | ⟨i', sz', e', l', u', hq', hc', hu'⟩
        · rw [hη1] at hg2
          simp [blkOf] at hg2
          exact absurd hg2.symm (hnest i u sz e l g' hu hc hg').2
        · rw [hη2 j' i' sz' e' l' u' hq' hc' hu'] at hg2
          have := hsepc i i' u u' sz e l sz' e' l' g' hu hu' hc hc' hg' hg2
          rw [hq, hq', this])
    (fun hle hfr2 j hNj => by
      rcases hNj with rfl | ⟨i, sz, e, l, u, hq, hc, hu⟩
      · rw [hSt, if_pos rfl, hη1]
        refine ⟨g, o, cur, e, rfl, hg, ?_⟩
        rw [hlenc, ← hus]
        refine ⟨by rw [hlenc]; exact hpw.1, fun i u x hu hx => ?_⟩
        rw [hang_get] at hx
        obtain ⟨c, hc, rfl⟩ := Option.map_eq_some_iff.1 hx
        have hr := hpw.2 i u c hu hc
        cases c <;> simp only [CellR] at hr
        case s v => subst hr; exact .s _
        case own sz e l =>
          obtain ⟨hsc, us1, ho, _⟩ := hr
          simp only [Nat.zero_add]
          refine .sw _ _ _ _ ?_ ?_ fun v0 hv0 => ?_
          · rcases ho.val with ⟨h', h0⟩ | ⟨g', o', cap', h', _⟩
            · exact ⟨none, 0, by rw [h', h0]⟩
            · exact ⟨_, _, h'⟩
          · simp only [cx]
            rw [hN _ i sz e l rfl hc]
            exact Nat.le_refl _
          · simp only [cx] at hv0
            rw [hN _ i sz e l rfl hc] at hv0
            simp [Cont.live] at hv0
            rw [hη2 _ i sz e l u rfl hc hu] at hv0
            exact hv0
      · rw [hN j i sz e l hq hc, hη2 j i sz e l u hq hc hu]
        have hr := hpw.2 i u _ hu hc
        obtain ⟨hsc, hrow⟩ := hr
        exact hrow.scal hsc fun _ _ => rfl)
  refine ⟨η', h6, .ptr d ver 0 _ ⟨_, rfl⟩ (by simp only [cx]; rw [hSt, if_pos rfl]; exact Nat.le_refl _) fun v0 hv0 => ?_, hle⟩
  simp only [cx] at hv0
  rw [hSt, if_pos rfl] at hv0
  simp [Cont.live] at hv0
  rw [hη1] at hv0
  exact ⟨g, o, hv0.symm, rfl⟩

theorem call_sound {C : Orc} (hC : ∀ g sp, C g = some sp → Impl P g sp) (h : Rel w0 I n ⟨env, st⟩ a w η) {d : Nat} {f : V} {u : Value} {xs : List V} {vs : List Value} {z : V} {us : List (Nat × Blk)}
    (hf : RV (cx w0 I st w η) u f) (hx : PW (RV (cx w0 I st w η)) vs xs) (hc : callV C st d f xs = some (z, us)) :
    ∃ g caps, u = .func (.func g) #[] caps ∧ (∃ fn, P.funcs[g]? = some fn ∧ (fn.name == "runtime.NumGoroutine") = false ∧ fn.body.isNone = false) ∧
      Calls P g (vs.toArray ++ caps) w fun e w' => ∃ v η', e = .returned v ∧ Rel w0 I n ⟨env, ups st us⟩ a w' η' ∧ RV (cx w0 I (ups st us) w' η') v z := by
  cases f <;> simp only [callV, reduceCtorEq] at hc
  rename_i g caps
  obtain ⟨sp, hsp, h2⟩ := Option.bind_eq_some_iff.1 hc
  obtain ⟨⟨ys, bs⟩, hys, h3⟩ := Option.bind_eq_some_iff.1 h2
  obtain ⟨r, hr, h4⟩ := Option.bind_eq_some_iff.1 h3
  split at h4
  case isFalse => cases h4
  rename_i hap
  obtain ⟨cs, rfl, hcs⟩ := hf.fn_inv
  obtain ⟨hfn, himpl⟩ := hC g sp hsp
  refine ⟨g, cs.toArray, rfl, hfn, ?_⟩
  have hxx := hx.append hcs
  have hlive := args_live h (xs ++ caps) sp.mv ys bs (vs ++ cs) hys hxx
  have hargs := args_sound h hlive (xs ++ caps) sp.mv ys bs (vs ++ cs) hys (.inr rfl) hap hxx
  have harr : (vs.toArray ++ cs.toArray).toList = vs ++ cs := by simp
  refine (himpl ys r hr (vs.toArray ++ cs.toArray) w (Moved η bs) (by rw [harr]; exact hargs)).mono ?_
  rintro e w' ⟨v, rfl, hfr, hres⟩
  have hgone := fun j => ups_gone st bs st j (fun _ => rfl)
  cases r
  case own sz e l =>
    simp only [Option.some.injEq, Prod.mk.injEq] at h4
    obtain ⟨rfl, rfl⟩ := h4
    obtain ⟨hrow, hblk⟩ := hres
    have hst : ∀ j, ups st ((bs.map fun b => (b, (⟨(st b).ver, Cont.gone⟩ : Blk))) ++ [(d, ⟨(st d).ver + 1, .row sz e l⟩)]) j = if j = d then ⟨(st d).ver + 1, .row sz e l⟩ else ups st (bs.map fun b => (b, (⟨(st b).ver, Cont.gone⟩ : Blk))) j := fun j => by
      rw [ups_append]; simp [ups, upd]
    obtain ⟨h6, hle, _⟩ := after_call h hlive hfr (st' := ups st ((bs.map fun b => (b, (⟨(st b).ver, Cont.gone⟩ : Blk))) ++ [(d, ⟨(st d).ver + 1, .row sz e l⟩)])) (η' := upd η d v) (fun j => j = d)
      (fun j hj hjd => by
        rw [hst, if_neg hjd, (hgone j).2.2 hj]
        simp [upd, hjd])
      (fun j hj hjd => by rw [hst, if_neg hjd]; exact ⟨(hgone j).2.1 hj, by rw [(hgone j).1]; exact Nat.le_refl _⟩)
      (fun j hjd => by subst hjd; rw [hst, if_pos rfl]; exact .inl (by simp))
      (fun j g hjd hg => by subst hjd; simp [upd] at hg; exact hblk g hg)
      (fun j j' g hj hj' _ _ => hj.trans hj'.symm)
      (fun hle hfr2 j hjd => by
        subst hjd
        rw [hst, if_pos rfl]
        simp only [upd, if_pos]
        obtain ⟨us0, ho, hu0, hp0, h10⟩ := hrow
        exact ⟨us0, ho, hu0, hp0.imp fun u x hx => hx.refresh rfl fun g hg hf => hfr2 g hf fun q hq => by subst hq; simpa [upd] using hg, h10⟩)
    refine ⟨v, _, rfl, h6, .sw d _ _ _ ?_ ?_ fun v0 hv0 => ?_⟩
    · obtain ⟨us0, ho, _⟩ := hrow
      rcases ho.val with ⟨h', h0⟩ | ⟨g', o', cap', h', _⟩
      · exact ⟨none, 0, by rw [h', h0]⟩
      · exact ⟨_, _, h'⟩
    · simp only [cx, hst]; simp
    · simp only [cx, hst] at hv0
      simp [upd, Cont.live] at hv0
      exact hv0
  case obx cs' =>
    simp only [Option.some.injEq, Prod.mk.injEq] at h4
    obtain ⟨rfl, rfl⟩ := h4
    obtain ⟨η', h5, h6, _⟩ := box_back h hlive hfr (d := d) (ver := (st d).ver + 1) hres (.inl (by omega)) _ rfl
    exact ⟨v, η', rfl, h5, h6⟩
  case io t r out =>
    obtain ⟨hsc, hrv, u0, hu0, hout⟩ := hres
    obtain ⟨up, hup, he⟩ := Option.map_eq_some_iff.1 h4
    simp only [Prod.mk.injEq] at he
    obtain ⟨rfl, rfl⟩ := he
    have hu1 : (vs ++ cs)[t]? = some u0 := by rw [← harr]; simpa using hu0
    obtain ⟨x0, hx0, hrx⟩ := hxx.getl hu1
    unfold backV at hup
    rw [hx0] at hup
    split at hup
    · rename_i b ver m sz e l heq
      simp only [Option.some.injEq] at heq
      subst heq
      split at hup
      case isFalse => cases hup
      rename_i hlen
      obtain ⟨hlen, hsome⟩ := hlen
      simp only [Option.some.injEq] at hup
      subst hup
      obtain ⟨⟨sz0, e0, l0⟩, hrowat⟩ := Option.isSome_iff_exists.1 hsome
      obtain ⟨hver, hcont, hlook, _⟩ := look_row h hrowat
      simp only at hver hcont
      have hub : u0 = η b := hrx.sw_inv.2.2 _ hlook
      have hbl : (st b).c.live = true := by rw [hcont]; rfl
      have hst : ∀ j, ups st ((bs.map fun b => (b, (⟨(st b).ver, Cont.gone⟩ : Blk))) ++ [(b, ⟨ver, .row sz e l⟩)]) j = if j = b then ⟨ver, .row sz e l⟩ else ups st (bs.map fun b => (b, (⟨(st b).ver, Cont.gone⟩ : Blk))) j := fun j => by
        rw [ups_append]; simp [ups, upd]
      obtain ⟨⟨hsc2, hrow⟩, hfresh⟩ := hout
      obtain ⟨h6, hle, _⟩ := after_call h hlive hfr (st' := ups st ((bs.map fun b => (b, (⟨(st b).ver, Cont.gone⟩ : Blk))) ++ [(b, ⟨ver, .row sz e l⟩)])) (η' := η) (fun j => j = b)
        (fun j hj hjd => by
          rw [hst, if_neg hjd, (hgone j).2.2 hj]
          exact ⟨rfl, rfl⟩)
        (fun j hj hjd => by rw [hst, if_neg hjd]; exact ⟨(hgone j).2.1 hj, by rw [(hgone j).1]; exact Nat.le_refl _⟩)
        (fun j hjd => by subst hjd; rw [hst, if_pos rfl]; exact .inr ⟨hver, rfl, hbl⟩)
        (fun j g hjd hg => by subst hjd; rw [← hub] at hg; exact hfresh g hg)
        (fun j j' g hj hj' _ _ => hj.trans hj'.symm)
        (fun hle hfr2 j hjd => by
          subst hjd
          rw [hst, if_pos rfl, ← hub]
          exact hrow.scal hsc2 fun _ _ => rfl)
      exact ⟨v, η, rfl, h6, RC.rvt (k := true) (RC.scalT hsc hrv) rfl⟩
    · rename_i b ver cs' heq
      simp only [Option.some.injEq] at heq
      subst heq
      split at hup
      case isFalse => cases hup
      rename_i hsome
      simp only [Option.some.injEq] at hup
      subst hup
      obtain ⟨cs0, hboxat⟩ := Option.isSome_iff_exists.1 hsome
      obtain ⟨hver, hcont, hlook, _⟩ := look_box h hboxat
      simp only at hver hcont
      obtain ⟨_, _, hpo⟩ := hrx.ptr_inv
      obtain ⟨g0, o0, h7, h8⟩ := hpo _ hlook
      obtain ⟨η', h5, _, _⟩ := box_back h hlive hfr (d := b) (ver := ver) hout (.inr ⟨hver, by rw [h7, h8]; rfl, by rw [hcont]; rfl⟩) _ rfl
      exact ⟨v, η', rfl, h5, RC.rvt (k := true) (RC.scalT hsc hrv) rfl⟩
    · cases hup
  all_goals
    simp only [Option.some.injEq, Prod.mk.injEq] at h4
    obtain ⟨rfl, rfl⟩ := h4
    obtain ⟨h6, hle, hfr2⟩ := after_call h hlive hfr (st' := ups st (bs.map fun b => (b, (⟨(st b).ver, Cont.gone⟩ : Blk)))) (η' := η) (fun _ => False)
      (fun j hj _ => ⟨(hgone j).2.2 hj, rfl⟩) (fun j hj _ => ⟨(hgone j).2.1 hj, by rw [(hgone j).1]; exact Nat.le_refl _⟩)
      (fun j hj => hj.elim) (fun j g hj => hj.elim) (fun j j' g hj => hj.elim) (fun hle hfr2 j hj => hj.elim)
    refine ⟨v, η, rfl, h6, RC.rvt (k := true) ?_ rfl⟩
    exact RC.refresh (show RC w' (fun _ => False) (Fresh w (Moved η bs)) true v _ from hres) rfl fun g _ hf => hfr2 g hf fun _ h => h.elim
end

end Go.Proofs.YtkfmecmmbnehjaaGreat
/-
Operations on maps of one's own, and the builtin clear, stand for those in memory. No condition.
-/
namespace Go.Proofs.YtkfmecmmbnehjaaGreat
set_option linter.unusedSimpArgs false
set_option linter.unusedVariables false

section
variable {P : Program} {w0 w : World} {I : Ow} {n : Nat} {s : S} {env : Nat → V} {st : Nat → Blk} {a : Act} {η : Nat → Value}

theorem wfI_wf {x : Int} (h : wfI x = true) : (Lit.int .i64 x).wf = true := by
  unfold wfI at h
  simp only [Bool.and_eq_true, decide_eq_true_eq] at h
  simp [Lit.wf, IntKind.min, IntKind.max, IntKind.signed, IntKind.bits]
  omega
theorem isI64T_spec {t : TypeId} (h : isI64T P t = true) : P.underlying t = some (.int .i64) := by
  unfold isI64T at h
  split at h
  · assumption
  · cases h
theorem mapI_spec {t : TypeId} (h : mapI P t = true) : ∃ k e, P.underlying t = some (.map k e) ∧ P.underlying k = some (.int .i64) ∧ P.underlying e = some (.int .i64) ∧ ∀ w, (zeroValue e).run P w = .ok (.int .i64 0) w := by
  unfold mapI at h
  split at h
  case h_2 => cases h
  rename_i k e ht
  simp only [Bool.and_eq_true] at h
  obtain ⟨hk, he, hz⟩ := h
  refine ⟨k, e, ht, isI64T_spec hk, isI64T_spec he, fun w => ?_⟩
  split at hz
  case h_2 => cases hz
  rename_i z hzo
  have hz0 : z = 0 := by simpa using hz
  subst hz0
  unfold zeroOf at hzo
  obtain ⟨i, hi, hiz⟩ := Option.bind_eq_some_iff.1 hzo
  simp [zeroValue, typeInfo, hi, hiz]

theorem Rel.newMap (h : Rel w0 I n ⟨env, st⟩ a w η) {d : Nat} :
    ∃ η', Rel w0 I n ⟨env, ups st [(d, ⟨(st d).ver + 1, .mpc 0 (fun _ => 0)⟩)]⟩ a (w.alloc (.map #[] 0)) η' ∧ RV (cx w0 I (ups st [(d, ⟨(st d).ver + 1, .mpc 0 (fun _ => 0)⟩)]) (w.alloc (.map #[] 0)) η') (.map (some w.heap.size)) (.mp d ((st d).ver + 1)) := by
  refine ⟨upd η d (.map (some w.heap.size)), ?_⟩
  have hg := World.grownBy_alloc w (.map #[] 0) none
  obtain ⟨h2, hle⟩ := h.step (st' := ups st [(d, ⟨(st d).ver + 1, .mpc 0 (fun _ => 0)⟩)]) (w' := w.alloc (.map #[] 0)) (η' := upd η d (.map (some w.heap.size))) (fun b => b = d)
    hg.os hg.tape hg.output hg.size (fun b hb => by simp [ups, upd, hb]) (fun b hb => by subst hb; simp [ups, upd]) (fun b hb _ => by subst hb; simp [ups, upd])
    (fun g hlt hne => absurd (hg.block g hlt (by simp)) hne)
    (fun b g hbd _ hgb => by subst hbd; simp [upd, blkOf] at hgb; exact .inl (by omega))
    (fun b b' g hb hb' _ _ _ _ => hb.trans hb'.symm)
    (fun hle b hbd _ => by
      subst hbd
      simp only [ups, upd, if_pos]
      exact ⟨_, rfl, RawOwn.made w⟩)
  refine ⟨h2, .mp d _ _ ⟨_, rfl⟩ (by simp [cx, ups, upd]) fun v0 hv0 => ?_⟩
  simp [cx, ups, upd, Cont.live] at hv0
  exact hv0

theorem mapAt_spec (h : Rel w0 I n s a w η) {b ver m : Nat} {f : Int → Int} {u : Value} (hm : mapAt s.st b ver = some (m, f)) (hu : RV (cx w0 I s.st w η) u (.mp b ver)) : (s.st b).ver = ver ∧ (s.st b).c = .mpc m f ∧ ∃ g, η b = .map (some g) ∧ u = .map (some g) ∧ RawOwn w g m f := by
  unfold mapAt at hm
  split at hm
  case isFalse => cases hm
  rename_i hver
  split at hm
  case h_2 => cases hm
  rename_i m' f' hc
  simp only [Option.some.injEq, Prod.mk.injEq] at hm
  obtain ⟨rfl, rfl⟩ := hm
  have hl : (s.st b).c.live = true := by rw [hc]; rfl
  have hB := h.blk b hl
  rw [hc] at hB
  obtain ⟨g, hg, ho⟩ := hB
  refine ⟨hver, hc, g, hg, ?_, ho⟩
  rw [hu.mp_inv.2.2 (η b) (by simp [cx, hver, hl]), hg]

theorem look_sound (h : Rel w0 I n s a w η) {t : TypeId} {x y z : V} {u k : Value} (hx : lookV P s.st t x y = some z) (hu : RV (cx w0 I s.st w η) u x) (hk : RV (cx w0 I s.st w η) k y) :
    ∃ r, (Instr.lookup t u k false).run P w = .ok r w ∧ RV (cx w0 I s.st w η) r z := by
  unfold lookV at hx
  split at hx
  case h_2 => cases hx
  rename_i b ver c
  split at hx
  case isFalse => cases hx
  rename_i hmi
  split at hx
  case isFalse => cases hx
  rename_i hwf
  obtain ⟨⟨m, f⟩, hm, rfl⟩ := Option.map_eq_some_iff.1 hx
  obtain ⟨_, _, g, _, rfl, ho⟩ := mapAt_spec h hm hu
  rw [hk.s_inv]
  obtain ⟨kt, e, ht, hkt, he, hz⟩ := mapI_spec hmi
  exact ⟨_, ho.look ht hkt he (hz w) (wfI_wf hwf), .s _⟩

theorem put_sound (h : Rel w0 I n ⟨env, st⟩ a w η) {t : TypeId} {x y z : V} {us : List (Nat × Blk)} {u k v : Value} (hx : putV P st t x y z = some us) (hu : RV (cx w0 I st w η) u x) (hk : RV (cx w0 I st w η) k y) (hv : RV (cx w0 I st w η) v z) :
    ∃ w', (Instr.mapUpdate t u k v).run P w = .ok () w' ∧ Rel w0 I n ⟨env, ups st us⟩ a w' η := by
  unfold putV at hx
  split at hx
  case h_2 => cases hx
  rename_i b ver c d
  split at hx
  case isFalse => cases hx
  rename_i hmi
  split at hx
  case isFalse => cases hx
  rename_i hwf
  split at hx
  case isFalse => cases hx
  rename_i hwv
  obtain ⟨⟨m, f⟩, hm, hx⟩ := Option.bind_eq_some_iff.1 hx
  simp only at hx
  split at hx
  case isFalse => cases hx
  rename_i hlt
  simp only [Option.some.injEq] at hx
  subst hx
  obtain ⟨hver, hcon, g, hη, rfl, ho⟩ := mapAt_spec h hm hu
  simp only at hver hcon
  rw [hk.s_inv, hv.s_inv]
  obtain ⟨kt, e, ht, hkt, he, _⟩ := mapI_spec hmi
  obtain ⟨w', hrun, ho', hg⟩ := ho.put ht hkt he hlt (wfI_wf hwf) (wfI_wf hwv)
  refine ⟨w', hrun, ?_⟩
  have hlive : (st b).c.live = true := by rw [hcon]; rfl
  refine (h.step (st' := ups st [(b, ⟨ver, .mpc (m + 1) (fun x => if x = c then d else f x)⟩)]) (w' := w') (η' := η) (fun j => j = b) hg.os hg.tape hg.output hg.size (fun j hj => by simp [ups, upd, hj]) (fun j hj => by subst hj; simp only [ups, upd, if_pos]; omega)
    (fun j hj _ => by subst hj; right; exact ⟨rfl, hlive⟩)
    (fun g' hlt' hne => ⟨b, rfl, hlive, by
      rw [hη]
      by_cases hgg : g' = g
      · subst hgg; rfl
      · exact absurd (hg.block g' hlt' (by simp [hgg])) hne⟩)
    (fun j g' hj _ hg' => .inr ⟨b, rfl, hlive, by subst hj; exact hg'⟩)
    (fun j j' g' hj hj' _ _ _ _ => hj.trans hj'.symm)
    (fun hle j hj _ => ?_)).1
  subst hj
  simp only [ups, upd, if_pos]
  exact ⟨g, hη, ho'⟩

theorem zeroCells_list (z : Array Value) (m : Nat) : (Builtin.zeroCells z m).toList = (List.replicate m z.toList).flatten := by
  have key : ∀ m : Nat, (List.range (m * z.size)).map (fun i => z[i % z.size]!) = (List.replicate m z.toList).flatten := by
    intro m
    induction m with
    | zero => simp
    | succ m ih =>
      rw [List.replicate_succ, List.flatten_cons, ← ih, Nat.add_mul, Nat.one_mul, Nat.add_comm, List.range_add, List.map_append, List.map_map]
      congr 1
      · apply List.ext_getElem?
        intro i
        rw [List.getElem?_map]
        by_cases hi : i < z.size
        · rw [List.getElem?_range hi]
          simp [Nat.mod_eq_of_lt hi, hi]
        · rw [List.getElem?_eq_none (by simpa using hi), List.getElem?_eq_none (by simpa using hi)]; rfl
      · apply List.map_congr_left
        intro i _
        simp
  unfold Builtin.zeroCells
  simp only [Array.toList_map, Array.toList_range]
  exact key m
theorem s_cells (z : Value) : (V.s z).cells = z.cells.toList.map .s := by
  cases z <;> simp [V.cells, Value.cells]
theorem flat_rep (z : Value) (m : Nat) : flat (List.replicate m (.s z)) = ((List.replicate m z.cells.toList).flatten).map .s := by
  induction m with
  | zero => rfl
  | succ m ih =>
    rw [List.replicate_succ, List.replicate_succ, List.flatten_cons, List.map_append, ← ih, ← s_cells]; rfl
theorem flat_len2 {l : List V} {sz : Nat} (h : ∀ x ∈ l, x.cells.length = sz) : (flat l).length = l.length * sz := by
  induction l with
  | nil => simp [flat]
  | cons x l ih =>
    have h1 := h x (by simp)
    have h2 := ih fun y hy => h y (by simp [hy])
    show (x.cells ++ flat l).length = _
    rw [List.length_append, h1, h2, List.length_cons, Nat.add_mul]; omega
theorem flat_take {l : List V} {sz : Nat} (h : ∀ x ∈ l, x.cells.length = sz) {k : Nat} (hk : k ≤ l.length) : (flat l).take (k * sz) = flat (l.take k) := by
  conv => lhs; rw [← List.take_append_drop k l, flat_app]
  rw [List.take_left']
  rw [flat_len2 fun x hx => h x (List.mem_of_mem_take hx), List.length_take]
  congr 1; omega
theorem flat_drop {l : List V} {sz : Nat} (h : ∀ x ∈ l, x.cells.length = sz) {k : Nat} (hk : k ≤ l.length) : (flat l).drop (k * sz) = flat (l.drop k) := by
  conv => lhs; rw [← List.take_append_drop k l, flat_app]
  rw [List.drop_left']
  rw [flat_len2 fun x hx => h x (List.mem_of_mem_take hx), List.length_take]
  congr 1; omega

theorem clear_sound (h : Rel w0 I n ⟨env, st⟩ a w η) {t : TypeId} {x : V} {us : List (Nat × Blk)} {u : Value} (hx : clearV P st t x = some us) (hu : RV (cx w0 I st w η) u x) (ty : TypeId) :
    ∃ w', (Builtin.clear_ #[t] ty #[u]).run P w = .ok (.tuple #[]) w' ∧ Rel w0 I n ⟨env, ups st us⟩ a w' η := by
  unfold clearV at hx
  split at hx
  case h_2 => cases hx
  rename_i e b ver sz off len ht
  obtain ⟨z, hz, hx⟩ := Option.bind_eq_some_iff.1 hx
  obtain ⟨⟨sz', e', l⟩, hb, hx⟩ := Option.bind_eq_some_iff.1 hx
  simp only at hx
  split at hx
  case isFalse => cases hx
  rename_i hc
  obtain ⟨rfl, hfit, hzs⟩ := hc
  split at hx
  case isFalse => cases hx
  rename_i hone
  simp only [Option.some.injEq] at hx
  subst hx
  unfold zeroOf at hz
  obtain ⟨i, hi, hiz⟩ := Option.bind_eq_some_iff.1 hz
  obtain ⟨hver, hcon, hl, us0, ho, hun, hp, h1⟩ := look_row h hb
  simp only at hver hcon
  have hpart := hu.sp_inv.2.2 _ hl
  have hlive : (st b).c.live = true := by rw [hcon]; rfl
  have hrelem : ∀ y ∈ l.take off ++ List.replicate len (V.s z) ++ l.drop (off + len), y.cells.length = sz' := fun y hy => by
    simp only [List.mem_append] at hy
    rcases hy with (hy | hy) | hy
    · exact hun y (List.mem_of_mem_take hy)
    · rw [(List.mem_replicate.1 hy).2, s_cells, List.length_map]; simpa using hzs
    · exact hun y (List.mem_of_mem_drop hy)
  have hll : (l.take off ++ List.replicate len (V.s z) ++ l.drop (off + len)).length = l.length := by
    simp only [List.length_append, List.length_take, List.length_replicate, List.length_drop]; omega
  -- nothing to be done
  have none_ : len = 0 → Rel w0 I n ⟨env, ups st [(b, ⟨ver, .row sz' e' (l.take off ++ List.replicate len (V.s z) ++ l.drop (off + len))⟩)]⟩ a w η := fun h0 => by
    subst h0
    have : ups st [(b, ⟨ver, .row sz' e' (l.take off ++ List.replicate 0 (V.s z) ++ l.drop (off + 0))⟩)] = st := by
      funext j
      simp only [ups, upd, List.replicate_zero, List.append_nil, Nat.add_zero, List.take_append_drop]
      split
      · rename_i hj
        subst hj
        cases hst : st j with
        | mk v' c' => rw [hst] at hver hcon; simp only at hver hcon; rw [hver, hcon]
      · rfl
    rw [this]; exact h
  rcases hpart with ⟨_, rfl⟩ | ⟨g, o, m, cap, len', o', hη, rfl, hoc, ho'⟩
  · obtain ⟨⟨A, cp, he, _⟩, _⟩ := hu.sp_inv
    cases he
    exact ⟨w, by simp [Builtin.clear_, run_underlying ht], none_ rfl⟩
  obtain ⟨⟨A, cp, he, hlc⟩, _⟩ := hu.sp_inv
  cases he
  rcases Nat.eq_zero_or_pos len with h0 | hpos
  · subst h0
    exact ⟨w, by simp [Builtin.clear_, run_underlying ht], none_ rfl⟩
  have hoff : o' = o + off * sz' := by
    rcases ho' with ho' | ⟨hcp, _⟩
    · exact ho'
    · omega
  subst hoff
  rcases ho.2 with ⟨h', _⟩ | ⟨g', o2, cap', cur, fz, h', hg, hfz, hnc, hcm, hsize, htake⟩
  · rw [h'] at hη; cases hη
  rw [h'] at hη
  cases hη
  have husl : us0.length = l.length * sz' := ho.1
  have hcapsz : l.length * sz' ≤ cap * sz' := Nat.mul_le_mul_right _ hnc
  have hrng : (off + len) * sz' ≤ l.length * sz' := Nat.mul_le_mul_right _ hfit
  have hmul : (off + len) * sz' = off * sz' + len * sz' := Nat.add_mul _ _ _
  obtain ⟨zs, hzl⟩ : ∃ zs, (Builtin.zeroCells z.cells len).toList = zs := ⟨_, rfl⟩
  have hzl2 := zeroCells_list z.cells len
  rw [hzl] at hzl2
  have hzone : ∀ v ∈ zs, v.oneCell' = true := fun v hv => by
    rw [hzl2] at hv
    obtain ⟨y, hy, hv⟩ := List.mem_flatten.1 hv
    rw [(List.mem_replicate.1 hy).2] at hv
    exact Array.all_eq_true'.1 hone v (by simpa using hv)
  have hzlen : zs.length = len * sz' := by
    rw [hzl2, List.length_flatten, List.map_replicate, List.sum_replicate_nat]
    simp [hzs]
  have hst := run_storeCells_h P g (o + off * sz') e' fz zs 0 cur w hg hfz (by omega) hzone
  simp only [Nat.add_zero] at hst
  have hput2 := OwnRow.put (w := w) (g := g) (o := o) (cap := cap) (cur := cur) (fz := fz) (e := e') (sz := sz') (n := l.length) (us := us0) husl hg hfz hnc hcm hsize htake (k := off * sz') (m := l.length) (vs := zs) (by omega) hnc (Nat.le_refl _) (by omega) (.inl rfl)
  have hz2 : (zeroValue e).run P w = .ok z w := by simp [zeroValue, typeInfo, hi, hiz]
  refine ⟨w.setRow g (cur.toList.take (o + off * sz') ++ zs ++ cur.toList.drop (o + off * sz' + zs.length)).toArray, ?_, ?_⟩
  · cases len with
    | zero => omega
    | succ len => simp [Builtin.clear_, run_underlying ht, hz2, hzl, hst]
  · refine (h.step (st' := ups st [(b, ⟨ver, .row sz' e' (l.take off ++ List.replicate len (V.s z) ++ l.drop (off + len))⟩)]) (w' := w.setRow g (cur.toList.take (o + off * sz') ++ zs ++ cur.toList.drop (o + off * sz' + zs.length)).toArray) (η' := η) (fun j => j = b) rfl rfl rfl (by simp) (fun j hj => by simp [ups, upd, hj]) (fun j hj => by subst hj; simp only [ups, upd, if_pos]; omega)
      (fun j hj _ => by subst hj; right; exact ⟨rfl, hlive⟩)
      (fun g' _ hne => ⟨b, rfl, hlive, by
        rw [h']
        by_cases hgg : g' = g
        · subst hgg; rfl
        · exact absurd (setRow_other w g g' _ hgg) hne⟩)
      (fun j g' hj _ hg' => .inr ⟨b, rfl, hlive, by subst hj; exact hg'⟩)
      (fun j j' g' hj hj' _ _ _ _ => hj.trans hj'.symm)
      (fun hle j hj _ => ?_)).1
    subst hj
    simp only [ups, upd, if_pos]
    rw [h']
    refine ⟨us0.take (off * sz') ++ zs ++ us0.drop (off * sz' + zs.length), ?_, hrelem, ?_, fun v hv => ?_⟩
    · rw [hll]; exact hput2
    · rw [flat_app, flat_app, flat_rep, ← hzl2, ← flat_take hun (by omega), ← flat_drop hun (by omega), hmul, ← hzlen]
      have hp' : PW (RC (w.setRow g (cur.toList.take (o + off * sz') ++ zs ++ cur.toList.drop (o + off * sz' + zs.length)).toArray) _ _ true) us0 (flat l) := hp.imp fun u x hx => by have := hx.mono hle.cells; rw [← hle.fresh] at this; exact this
      exact ((hp'.take _).append (PW.consts zs fun v => .s true v)).append (hp'.drop _)
    · simp only [List.mem_append] at hv
      rcases hv with (hv | hv) | hv
      · exact h1 v (List.mem_of_mem_take hv)
      · exact hzone v hv
      · exact h1 v (List.mem_of_mem_drop hv)
end
end Go.Proofs.YtkfmecmmbnehjaaGreat
/-
The plain reckoning of a function's text stands for its run: what it shows of the answer holds of the call. No condition.
-/
namespace Go.Proofs.YtkfmecmmbnehjaaGreat
set_option linter.unusedSimpArgs false
set_option linter.unusedVariables false

section
variable {P : Program} {w0 w : World} {I : Ow} {n : Nat} {s s' : S} {env : Nat → V} {st : Nat → Blk} {a : Act} {η : Nat → Value} {C : Orc} {E : EqT}

theorem step_value {o : Oper} {z : V} {u : List (Nat × Blk)} (h : Rel w0 I n s a w η) (hop : opV P C E o (ev s.env) s.st = some (z, u)) (hs : stepV P C E n o s = some s') {K : Act → World → Prop} {Q : Exit → Act → World → Prop}
    (hK : ∀ η' a' w', Rel w0 I n s' a' w' η' → K a' w')
    (hr : ∃ r w' η', (execOp a.eval o).run P w = .ok (.value r) w' ∧ Rel w0 I n ⟨s.env, ups s.st u⟩ a w' η' ∧ RV (cx w0 I (ups s.st u) w' η') r z) : o.wp P a w K Q := by
  obtain ⟨r, w', η', hrun, hrel, hv⟩ := hr
  unfold Oper.wp
  rw [hrun]
  unfold stepV at hs
  rw [hop] at hs
  simp only [Option.bind_some] at hs
  simp only [Oper.upon]
  split at hs
  · rename_i d hd
    split at hs
    case isFalse => cases hs
    rename_i hdn
    simp only [Option.some.injEq] at hs
    subst hs
    rw [hd]
    exact hK η' _ _ (hrel.put hv hdn)
  · rename_i hd
    simp only [Option.some.injEq] at hs
    subst hs
    rw [hd]
    exact hK η' _ _ hrel

theorem pure_value {o : Oper} {x : Option V} {z : V} {u : List (Nat × Blk)} (h : Rel w0 I n s a w η) (hx : x.map (fun v => (v, ([] : List (Nat × Blk)))) = some (z, u))
    (hr : ∀ z, x = some z → ∃ r, (execOp a.eval o).run P w = .ok (.value r) w ∧ RV (cx w0 I s.st w η) r z) :
    ∃ r w' η', (execOp a.eval o).run P w = .ok (.value r) w' ∧ Rel w0 I n ⟨s.env, ups s.st u⟩ a w' η' ∧ RV (cx w0 I (ups s.st u) w' η') r z := by
  obtain ⟨z', hz, he⟩ := Option.map_eq_some_iff.1 hx
  simp only [Prod.mk.injEq] at he
  obtain ⟨rfl, rfl⟩ := he
  obtain ⟨r, h1, h2⟩ := hr z' hz
  exact ⟨r, w, η, h1, h, h2⟩

theorem zeroOf_info {t : Nat} {z : Value} (h : zeroOf P t = some z) : ∃ i, P.info? t = some i ∧ i.zero = some z := by
  unfold zeroOf at h
  obtain ⟨i, hi, h'⟩ := Option.bind_eq_some_iff.1 h
  exact ⟨i, hi, h'⟩

theorem evals (h : Rel w0 I n s a w η) (l : List Operand) : PW (RV (cx w0 I s.st w η)) (l.map a.eval) (l.map (ev s.env)) := by
  refine ⟨by simp, fun i u x hu hx => ?_⟩
  rw [List.getElem?_map] at hu hx
  obtain ⟨o, ho, rfl⟩ := Option.map_eq_some_iff.1 hu
  rw [ho] at hx
  simp at hx
  subst hx
  exact h.eval o

theorem arr_map {α β : Type} (f : α → β) (ps : Array α) : ps.map f = (ps.toList.map f).toArray := by apply Array.toList_inj.1; simp

theorem pickV_rv {c : Cx} {u v : Value} {x y : V} (b : Bool) (h1 : RV c u x) (h2 : RV c v y) : RV c (if b then u else v) (pickV b x y) := by
  cases b
  · exact h2
  · exact h1

theorem op_sound (hC : ∀ g sp, C g = some sp → Impl P g sp) (hE : EqOk P E) (h : Rel w0 I n s a w η) {o : Oper} (hs : stepV P C E n o s = some s') {K : Act → World → Prop} {Q : Exit → Act → World → Prop}
    (hK : ∀ η' a' w', Rel w0 I n s' a' w' η' → K a' w') : o.wp P a w K Q := by
  obtain ⟨⟨z, u⟩, hop, _⟩ := Option.bind_eq_some_iff.1 hs
  obtain ⟨env, st⟩ := s
  have hop0 := hop
  unfold opV at hop
  cases ho : o.op <;> simp only [ho, reduceCtorEq] at hop
  case move x =>
    exact step_value h hop0 hs hK (pure_value h hop fun z hz => ⟨a.eval x, by simp [execOp, ho], by simp only [Option.some.injEq] at hz; subst hz; exact h.eval x⟩)
  case assign x =>
    exact step_value h hop0 hs hK (pure_value h hop fun z hz => ⟨a.eval x, by simp [execOp, ho], by simp only [Option.some.injEq] at hz; subst hz; exact h.eval x⟩)
  case pick c x y =>
    split at hop
    · rename_i b hb
      have hc := h.eval c
      simp only at hc
      rw [hb] at hc
      exact step_value h hop0 hs hK (pure_value h hop fun z hz => ⟨if b then a.eval x else a.eval y, by simp [execOp, ho, hc.s_inv, asBool], by simp only [Option.some.injEq] at hz; subst hz; exact pickV_rv b (h.eval x) (h.eval y)⟩)
    · cases hop
  case alloc t =>
    obtain ⟨zv, hzv, he⟩ := Option.map_eq_some_iff.1 hop
    simp only [Prod.mk.injEq] at he
    obtain ⟨rfl, rfl⟩ := he
    obtain ⟨i, hi, hiz⟩ := zeroOf_info hzv
    obtain ⟨η', h1, h2⟩ := h.new (d := o.dst.getD 0) (e := t) (us := zv.cells.toList) (cs := zv.cells.toList.map .s) (PW.consts _ fun v => .s v)
    simp only [Array.toArray_toList] at h1 h2
    exact step_value h hop0 hs hK ⟨_, _, η', by simp [execOp, ho, Instr.alloc, zeroValue, typeInfo, hi, hiz, newVar, newRow], h1, h2⟩
  case box t x =>
    simp only [Option.some.injEq, Prod.mk.injEq] at hop
    obtain ⟨rfl, rfl⟩ := hop
    obtain ⟨η', h1, h2⟩ := h.new (d := o.dst.getD 0) (e := t) (us := (a.eval x).cells.toList) (cs := (ev env x).cells) (h.eval x).cells
    simp only [Array.toArray_toList] at h1 h2
    exact step_value h hop0 hs hK ⟨_, _, η', by simp [execOp, ho, Instr.box, newVar, newRow], h1, h2⟩
  case build t ps =>
    refine step_value h hop0 hs hK (pure_value h hop fun z hz => ?_)
    obtain ⟨cs, hcs, rfl⟩ := Option.map_eq_some_iff.1 hz
    obtain ⟨r, h1, h2⟩ := build_sound h (ps := ps.toList) hcs
    refine ⟨r, ?_, h2⟩
    simp only [execOp, ho]
    rw [show (Array.map (fun (x : Nat × Operand) => match x with | (i, x) => (i, a.eval x)) ps) = (ps.toList.map fun p => (p.1, a.eval p.2)).toArray from arr_map _ ps]
    simp [h1]
  case buildSlice t m ps =>
    split at hop
    case isFalse => cases hop
    obtain ⟨r, w', η', h1, h2, h3⟩ := buildSlice_sound h (ps := ps.toList) (d := o.dst.getD 0) hop
    refine step_value h hop0 hs hK ⟨r, w', η', ?_, h2, h3⟩
    simp only [execOp, ho]
    rw [show (Array.map (fun (x : Nat × Operand) => match x with | (i, x) => (i, a.eval x)) ps) = (ps.toList.map fun p => (p.1, a.eval p.2)).toArray from arr_map _ ps]
    simp [h1]
  case makeSlice t m m' =>
    split at hop
    case isFalse => cases hop
    split at hop
    case h_2 => cases hop
    rename_i p q hp hq
    split at hop
    case isFalse => cases hop
    rename_i hpq
    subst hpq
    obtain ⟨r, w', η', h1, h2, h3⟩ := make_sound h (d := o.dst.getD 0) hop
    have e1 := h.eval m
    have e2 := h.eval m'
    simp only at e1 e2
    rw [hp] at e1
    rw [hq] at e2
    exact step_value h hop0 hs hK ⟨r, w', η', by simp [execOp, ho, e1.s_inv, e2.s_inv, h1], h2, h3⟩
  case makeInterface t x =>
    refine step_value h hop0 hs hK (pure_value h hop fun z hz => ?_)
    obtain ⟨r, h1, h2⟩ := iface_sound (P := P) hz (h.eval x) w
    exact ⟨r, by simp [execOp, ho, h1], h2⟩
  case typeAssert x xt t ok =>
    refine step_value h hop0 hs hK (pure_value h hop fun z hz => ?_)
    obtain ⟨r, h1, h2⟩ := assert_sound (P := P) (xt := xt) hz (h.eval x) w
    exact ⟨r, by simp [execOp, ho, h1], h2⟩
  case load t x =>
    refine step_value h hop0 hs hK (pure_value h hop fun z hz => ?_)
    obtain ⟨r, h1, h2⟩ := load_sound h hz (h.eval x)
    exact ⟨r, by simp [execOp, ho, h1], h2⟩
  case store t x y =>
    split at hop
    case isFalse => cases hop
    rename_i hd
    obtain ⟨us, hus, he⟩ := Option.map_eq_some_iff.1 hop
    simp only [Prod.mk.injEq] at he
    obtain ⟨rfl, rfl⟩ := he
    obtain ⟨w', h1, h2⟩ := store_sound h hus (h.eval x) (h.eval y)
    have hd' : o.dst = none := by simpa using hd
    unfold stepV at hs
    rw [hop0] at hs
    simp only [Option.bind_some, hd', Option.some.injEq] at hs
    subst hs
    unfold Oper.wp
    have : (execOp a.eval o).run P w = .ok .skip w' := by simp [execOp, ho, h1]
    rw [this]
    simp only [Oper.upon, hd', Act.put]
    exact hK η a w' h2
  case binOp op t x y ty =>
    refine step_value h hop0 hs hK (pure_value h hop fun z hz => ?_)
    obtain ⟨r, h1, h2⟩ := bin_sound (P := P) hE hz (h.eval x) (h.eval y) x y w
    refine ⟨r, ?_, h2⟩
    simp only [execOp, ho]
    rw [Sem.run_bind, h1]
    simp
  case unOp op t x =>
    refine step_value h hop0 hs hK (pure_value h hop fun z hz => ?_)
    obtain ⟨r, h1, h2⟩ := un_sound (P := P) hz (h.eval x) w
    exact ⟨r, by simp [execOp, ho, h1], h2⟩
  case convert src dst x =>
    obtain ⟨z', hz, he⟩ := Option.map_eq_some_iff.1 hop
    simp only [Prod.mk.injEq] at he
    obtain ⟨rfl, rfl⟩ := he
    obtain ⟨r, w', h1, h2, h3⟩ := conv_sound h hz (h.eval x)
    exact step_value h hop0 hs hK ⟨r, w', η, by simp [execOp, ho, h1], h2, h3⟩
  case makeFunc f first caps =>
    cases f <;> simp only [reduceCtorEq] at hop
    rename_i f'
    split at hop
    case isFalse => cases hop
    rename_i h0
    refine step_value h hop0 hs hK (pure_value h hop fun z hz => ?_)
    simp only [Option.some.injEq] at hz
    subst hz
    have hp := evals h caps.toList
    have hf : first = #[] := by simpa using h0
    refine ⟨.func (.func f') #[] (caps.toList.map a.eval).toArray, ?_, .fn f' _ _ hp.1 hp.2⟩
    simp [execOp, ho, Instr.makeFunc, hf, arr_map]
  case slice t x lo hi mx =>
    split at hop <;> try (simp only [reduceCtorEq] at *; done)
    rename_i t' x' lo' hi' hfe
    simp only [Op.slice.injEq] at hfe
    obtain ⟨rfl, rfl, rfl, rfl, rfl⟩ := hfe
    refine step_value h hop0 hs hK (pure_value h hop fun z hz => ?_)
    obtain ⟨r, h1, h2⟩ := slice_sound (P := P) h (lo' := lo.map a.eval) (hi' := hi.map a.eval) hz (h.eval x)
      (fun y hy => by obtain ⟨q, rfl, rfl⟩ := Option.map_eq_some_iff.1 hy; exact ⟨_, rfl, h.eval q⟩) (fun hy => by cases lo <;> simp_all)
      (fun y hy => by obtain ⟨q, rfl, rfl⟩ := Option.map_eq_some_iff.1 hy; exact ⟨_, rfl, h.eval q⟩) (fun hy => by cases hi <;> simp_all)
    exact ⟨r, by simp [execOp, ho, h1], h2⟩
  case fieldAddr t x k =>
    obtain ⟨off, hoff, hop2⟩ := Option.bind_eq_some_iff.1 hop
    refine step_value h hop0 hs hK (pure_value h hop2 fun z hz => ?_)
    obtain ⟨r, h1, h2⟩ := fieldAddr_sound (P := P) h hoff (h.eval x) hz
    exact ⟨r, by simp [execOp, ho, h1], h2⟩
  case nilCheck x =>
    refine step_value h hop0 hs hK (pure_value h hop fun z hz => ?_)
    obtain ⟨h1, g, h2⟩ := nil_sound h (h.eval x) hz
    exact ⟨a.eval x, by simp [execOp, ho, h2], h1⟩
  case indexAddr t x i =>
    refine step_value h hop0 hs hK (pure_value h hop fun z hz => ?_)
    obtain ⟨r, h1, h2⟩ := indexAddr_sound (P := P) h hz (h.eval x) (h.eval i)
    exact ⟨r, by simp [execOp, ho, h1], h2⟩
  case index t x i =>
    refine step_value h hop0 hs hK (pure_value h hop fun z hz => ?_)
    obtain ⟨r, h1, h2⟩ := index_sound (P := P) (w := w) hz (h.eval x) (h.eval i)
    exact ⟨r, by simp [execOp, ho, h1], h2⟩
  case extract x i =>
    split at hop
    · rename_i l hl
      refine step_value h hop0 hs hK (pure_value h hop fun z hz => ?_)
      have hx := h.eval x
      simp only at hx
      rw [hl] at hx
      obtain ⟨us, hus, hp⟩ := hx.tup_inv
      obtain ⟨r, h1, h2⟩ := hp.get hz
      exact ⟨r, by simp [execOp, ho, hus, Instr.extract, h1], h2⟩
    · cases hop
  case makeMap t r =>
    cases r <;> simp only [reduceCtorEq] at hop
    split at hop
    case isFalse => cases hop
    unfold makeMapV at hop
    split at hop
    case isFalse => cases hop
    simp only [Option.some.injEq, Prod.mk.injEq] at hop
    obtain ⟨rfl, rfl⟩ := hop
    obtain ⟨η', h1, h2⟩ := h.newMap (d := o.dst.getD 0)
    exact step_value h hop0 hs hK ⟨_, _, η', by simp [execOp, ho, RowKit.run_makeMap], h1, h2⟩
  case lookup t m x ok =>
    cases ok <;> simp only [reduceCtorEq] at hop
    refine step_value h hop0 hs hK (pure_value h hop fun z hz => ?_)
    obtain ⟨r, h1, h2⟩ := look_sound h hz (h.eval m) (h.eval x)
    exact ⟨r, by simp [execOp, ho, h1], h2⟩
  case mapUpdate t m x y =>
    split at hop
    case isFalse => cases hop
    rename_i hd
    obtain ⟨us, hus, he⟩ := Option.map_eq_some_iff.1 hop
    simp only [Prod.mk.injEq] at he
    obtain ⟨rfl, rfl⟩ := he
    obtain ⟨w', h1, h2⟩ := put_sound h hus (h.eval m) (h.eval x) (h.eval y)
    have hd' : o.dst = none := by simpa using hd
    unfold stepV at hs
    rw [hop0] at hs
    simp only [Option.bind_some, hd', Option.some.injEq] at hs
    subst hs
    unfold Oper.wp
    have : (execOp a.eval o).run P w = .ok .skip w' := by simp [execOp, ho, h1, Result.andThen]
    rw [this]
    simp only [Oper.upon, hd', Act.put]
    exact hK η a w' h2
  case call c =>
    split at hop
    case isFalse =>
      rename_i hd
      split at hop
      case h_2 => cases hop
      rename_i hcal
      split at hop
      case h_2 => cases hop
      rename_i t x ht hx
      obtain ⟨us, hus, he⟩ := Option.map_eq_some_iff.1 hop
      simp only [Prod.mk.injEq] at he
      obtain ⟨rfl, rfl⟩ := he
      obtain ⟨w', h1, h2⟩ := clear_sound h hus (h.eval x) o.type
      have hd' : o.dst = none := by simpa using hd
      unfold stepV at hs
      rw [hop0] at hs
      simp only [Option.bind_some, hd', Option.some.injEq] at hs
      subst hs
      have e1 : c.argTypes = #[t] := by rw [← Array.toArray_toList (xs := c.argTypes), ht]
      have e2 : c.args = #[x] := by rw [← Array.toArray_toList (xs := c.args), hx]
      unfold Oper.wp
      have : (execOp a.eval o).run P w = .ok (.value (.tuple #[])) w' := by simp [execOp, ho, resolve, hcal, e1, e2, invoke, builtin, h1]
      rw [this]
      simp only [Oper.upon, hd', Act.put]
      exact hK η a w' h2
    split at hop
    · rename_i hcal
      split at hop
      · rename_i t x ht hx
        refine step_value h hop0 hs hK (pure_value h hop fun z hz => ?_)
        obtain ⟨r, h1, h2⟩ := len_sound (P := P) h hz (h.eval x) o.type
        refine ⟨r, ?_, h2⟩
        have e1 : c.argTypes = #[t] := by rw [← Array.toArray_toList (xs := c.argTypes), ht]
        have e2 : c.args = #[x] := by rw [← Array.toArray_toList (xs := c.args), hx]
        simp [execOp, ho, resolve, hcal, e1, e2, invoke, builtin, h1]
      · cases hop
    · rename_i hcal
      split at hop
      · rename_i t t2 x y ht hx
        split at hop
        case isFalse => cases hop
        rename_i htt
        subst htt
        obtain ⟨r, w', η', h1, h2, h3⟩ := append_sound h hop (h.eval x) (h.eval y) o.type
        refine step_value h hop0 hs hK ⟨r, w', η', ?_, h2, h3⟩
        have e1 : c.argTypes = #[t, t] := by rw [← Array.toArray_toList (xs := c.argTypes), ht]
        have e2 : c.args = #[x, y] := by rw [← Array.toArray_toList (xs := c.args), hx]
        simp [execOp, ho, resolve, hcal, e1, e2, invoke, builtin, h1]
      · cases hop
    · rename_i hcal
      refine step_value h hop0 hs hK (pure_value h hop fun z hz => ?_)
      have he := evals h c.args.toList
      simp only at he hz
      generalize hxs : c.args.toList.map (ev env) = xs at he hz
      unfold maxV at hz
      split at hz
      case h_2 => cases hz
      rename_i k x k' y
      simp only [Option.some.injEq] at hz
      subst hz
      obtain ⟨u1, us1, hu1, r1, p1⟩ := he.uncons
      obtain ⟨u2, us2, rfl, r2, p2⟩ := p1.uncons
      have := p2.nil_r
      subst this
      rw [r1.s_inv, r2.s_inv] at hu1
      refine ⟨_, ?_, .s _⟩
      have e2 : c.args.map a.eval = #[.int k x, .int k' y] := by rw [arr_map, hu1]
      simp only [execOp, ho, resolve, hcal, invoke, builtin, Sem.run_bind, Sem.run_pure, Result.andThen_ok, e2]
      simp [Builtin.max_, Builtin.max2]
    · rename_i hcal
      refine step_value h hop0 hs hK (pure_value h hop fun z hz => ?_)
      have he := evals h c.args.toList
      simp only at he hz
      generalize hxs : c.args.toList.map (ev env) = xs at he hz
      unfold minV at hz
      split at hz
      case h_2 => cases hz
      rename_i k x k' y
      simp only [Option.some.injEq] at hz
      subst hz
      obtain ⟨u1, us1, hu1, r1, p1⟩ := he.uncons
      obtain ⟨u2, us2, rfl, r2, p2⟩ := p1.uncons
      have := p2.nil_r
      subst this
      rw [r1.s_inv, r2.s_inv] at hu1
      refine ⟨_, ?_, .s _⟩
      have e2 : c.args.map a.eval = #[.int k x, .int k' y] := by rw [arr_map, hu1]
      simp only [execOp, ho, resolve, hcal, invoke, builtin, Sem.run_bind, Sem.run_pure, Result.andThen_ok, e2]
      simp [Builtin.min_, Builtin.min2]
    · rename_i f hcal
      obtain ⟨g, caps, hg, ⟨fn, hfn, hname, hbody⟩, hcalls⟩ := call_sound hC h (h.eval f) (evals h c.args.toList) hop
      have hrun : (execOp a.eval o).run P w = .ok (.enter g ((c.args.toList.map a.eval).toArray ++ caps)) w := by
        simp only [execOp, ho, resolve, hcal, hg, Deferred.ofValue, Sem.run_bind, Sem.run_pure, Result.andThen_ok, invoke, callFunc]
        have hn : fn.name ≠ "runtime.NumGoroutine" := by simpa using hname
        have hb : fn.body ≠ none := by intro h; rw [h] at hbody; cases hbody
        simp [hfn, hn, hb, arr_map]
      unfold Oper.wp
      rw [hrun]
      simp only [Oper.upon]
      refine hcalls.mono ?_
      rintro e w' ⟨v, η', rfl, h1, h2⟩
      unfold stepV at hs
      rw [hop0] at hs
      simp only [Option.bind_some] at hs
      split at hs
      · rename_i d hd
        split at hs
        case isFalse => cases hs
        rename_i hdn
        simp only [Option.some.injEq] at hs
        subst hs
        simp only [hd]
        exact hK η' _ _ (h1.put h2 hdn)
      · rename_i hd
        simp only [Option.some.injEq] at hs
        subst hs
        simp only [hd]
        exact hK η' _ _ h1
    · cases hop
end

end Go.Proofs.YtkfmecmmbnehjaaGreat
/-
Regions that draw their order: the plain reckoning in the text's order stands for every order. No condition.
-/
namespace Go.Proofs.YtkfmecmmbnehjaaGreat
set_option linter.unusedSimpArgs false
set_option linter.unusedVariables false

section
variable {P : Program} {w0 w : World} {I : Ow} {n : Nat} {s s' : S} {env : Nat → V} {st st' : Nat → Blk} {a : Act} {η : Nat → Value} {C : Orc} {E : EqT} {B T : List Nat}

theorem opV_congr {o : Oper} {ρ ρ' : Operand → V} (h : ∀ x ∈ o.op.operands, ρ x = ρ' x) : opV P C E o ρ st = opV P C E o ρ' st := by
  have hps : ∀ ps : Array (Nat × Operand), (∀ x ∈ ps.map (·.2), ρ x = ρ' x) → (ps.toList.map fun (p : Nat × Operand) => (p.1, ρ p.2)) = (ps.toList.map fun (p : Nat × Operand) => (p.1, ρ' p.2)) := fun ps hp =>
    List.map_congr_left fun p hm => by rw [hp p.2 (Array.mem_map.2 ⟨p, by simpa using hm, rfl⟩)]
  unfold opV
  cases ho : o.op <;> simp only [ho, Op.operands] at h ⊢
  case move x => rw [h x (by simp)]
  case assign x => rw [h x (by simp)]
  case pick c x y => rw [h c (by simp), h x (by simp), h y (by simp)]
  case box t x => rw [h x (by simp)]
  case build t ps =>
    have := hps ps (fun x hx => h x (by simpa using hx))
    exact congrArg (fun q => Option.map (fun v => (v, [])) (Option.map V.agg (buildC P t q))) this
  case buildSlice t m ps =>
    have := hps ps (fun x hx => h x (by simpa using hx))
    exact congrArg (fun q => if o.dst.isSome = true then buildSliceV P st (o.dst.getD 0) t m q else none) this
  case makeSlice t x y => rw [h x (by simp), h y (by simp)]
  case makeInterface t x => rw [h x (by simp)]
  case typeAssert x xt t ok => rw [h x (by simp)]
  case load t x => rw [h x (by simp)]
  case store t x y => rw [h x (by simp), h y (by simp)]
  case binOp op t x y ty => rw [h x (by simp), h y (by simp)]
  case unOp op t x => rw [h x (by simp)]
  case convert s d x => rw [h x (by simp)]
  case makeFunc f first caps =>
    have : caps.toList.map ρ = caps.toList.map ρ' := List.map_congr_left fun p hp => h p (by simp; right; simpa using hp)
    cases f <;> simp only [this]
  case slice t x lo hi mx =>
    have h1 := h x (by simp)
    have h2 : lo.map ρ = lo.map ρ' := by cases lo with
      | none => rfl
      | some q => simp [h q (by simp)]
    have h3 : hi.map ρ = hi.map ρ' := by cases hi with
      | none => rfl
      | some q => simp [h q (by simp)]
    cases mx <;> simp only [h1, h2, h3]
  case fieldAddr t x k => rw [h x (by simp)]
  case nilCheck x => rw [h x (by simp)]
  case indexAddr t x i => rw [h x (by simp), h i (by simp)]
  case index t x i => rw [h x (by simp), h i (by simp)]
  case extract x i => rw [h x (by simp)]
  case makeMap t r => cases r <;> rfl
  case lookup t m x ok =>
    have h1 := h m (by simp)
    have h2 := h x (by simp)
    cases ok <;> simp only [h1, h2]
  case mapUpdate t m x y => rw [h m (by simp), h x (by simp), h y (by simp)]
  case call c =>
    have ha : c.args.toList.map ρ = c.args.toList.map ρ' := List.map_congr_left fun p hp => h p (by simp [Call.operands]; right; simpa using hp)
    cases hc : c.callee with
    | value f =>
      have hf : ρ f = ρ' f := h f (by simp [Call.operands, hc])
      simp only [ha, hf]
    | invoke r m => rfl
    | builtin b =>
      have hx : ∀ x ∈ c.args.toList, ρ x = ρ' x := fun x hx => h x (by simp [Call.operands]; right; simpa using hx)
      cases b <;> simp only
      · split
        · split
          · rename_i t u x y ht hxy
            rw [hx x (by rw [hxy]; simp), hx y (by rw [hxy]; simp)]
          · rfl
        · rfl
      · split
        · rfl
        · split
          · rename_i t x ht hxx
            rw [hx x (by rw [hxx]; simp)]
          · rfl
      · split
        · split
          · rename_i t x ht hxx
            rw [hx x (by rw [hxx]; simp)]
          · rfl
        · rfl
      · rw [ha]
      · rw [ha]

theorem apartL_spec {l B : List Nat} (h : apartL l B = true) : ∀ x ∈ l, x ∉ B := fun x hx => by
  have := List.all_eq_true.1 h x hx
  simpa using this

theorem exp_closed : ∀ (k : Nat) (x : V), x.clo false = true → expV st k x = expV st' k x
  | 0, x, _ => rfl
  | k + 1, x, hx => by
    have ml : ∀ l : List V, V.cloL false l = true → l.mapM (expV st k) = l.mapM (expV st' k) := fun l => by
      induction l with
      | nil => intro _; rfl
      | cons y l ih =>
        intro h
        simp only [V.cloL, Bool.and_eq_true] at h
        rw [List.mapM_cons, List.mapM_cons, exp_closed k y h.1, ih h.2]
    cases x <;> simp only [expV]
    case agg l => rw [ml l (by simpa [V.clo] using hx)]
    case tup l => rw [ml l (by simpa [V.clo] using hx)]
    case fn f l => rw [ml l (by simpa [V.clo] using hx)]
    case sw => simp [V.clo] at hx
    case sp => simp [V.clo] at hx
    case bp => simp [V.clo] at hx
    case ptr => simp [V.clo] at hx

theorem args_closed : ∀ (mv : List Bool) (xs : List V), (∀ x ∈ xs, x.clo false = true) → argsV st mv xs = argsV st' mv xs
  | mv, [], _ => by simp [argsV]
  | mv, x :: xs, h => by
    have ih := args_closed mv.tail xs fun y hy => h y (by simp [hy])
    have hx := h x (by simp)
    simp only [argsV, ih]
    congr 1
    funext p
    obtain ⟨ys, bs⟩ := p
    simp only
    have hm : x.movable = false := by cases x <;> simp [V.clo] at hx <;> rfl
    rw [hm, Bool.and_false]
    simp only
    rw [exp_closed 4 _ hx]
theorem args_nil : ∀ (mv : List Bool) (xs : List V) (ys : List V) (bs : List Nat), (∀ x ∈ xs, x.clo false = true) → argsV st mv xs = some (ys, bs) → bs = []
  | mv, [], ys, bs, _, h => by simp [argsV] at h; exact h.2
  | mv, x :: xs, ys, bs, hc, h => by
    simp only [argsV] at h
    obtain ⟨⟨ys', bs'⟩, h1, h2⟩ := Option.bind_eq_some_iff.1 h
    have ih := args_nil mv.tail xs ys' bs' (fun y hy => hc y (by simp [hy])) h1
    have hx := hc x (by simp)
    have hm : x.movable = false := by cases x <;> simp [V.clo] at hx <;> rfl
    rw [hm, Bool.and_false] at h2
    simp only at h2
    obtain ⟨y, _, h3⟩ := Option.bind_eq_some_iff.1 h2
    simp only [Option.some.injEq, Prod.mk.injEq] at h3
    rw [← h3.2]; exact ih

/-- an operation that turns nothing and reads nothing that turns -/
theorem opV_off {o : Oper} {ρ : Operand → V} {v : V} (h : opV P C E o ρ st = some (v, [])) (hr : readsOk B o.op ρ = true) (hb : ∀ b, b ∉ B → st' b = st b) : opV P C E o ρ st' = some (v, []) := by
  unfold readsOk at hr
  simp only [Bool.or_eq_true] at hr
  rcases hr with hr | hr
  · have : B = [] := by simpa using hr
    subst this
    have : st' = st := funext fun b => hb b (by simp)
    rw [this]; exact h
  have rowA : ∀ b ver, b ∉ B → rowAt st' b ver = rowAt st b ver := fun b ver hbb => by unfold rowAt; rw [hb b hbb]
  have anyA : ∀ b ver, b ∉ B → rowAny st' b ver = rowAny st b ver := fun b ver hbb => by unfold rowAny; rw [hb b hbb]
  have boxA : ∀ b ver, b ∉ B → boxAt st' b ver = boxAt st b ver := fun b ver hbb => by unfold boxAt; rw [hb b hbb]
  have elemsA : ∀ x : V, apartL x.ref B = true → elemsOf st' x = elemsOf st x := fun x hx => by
    cases x <;> simp only [elemsOf]
    case sw b ver len => rw [rowA b ver (apartL_spec hx b (by simp [V.ref]))]
    case sp b ver sz off len => rw [rowA b ver (apartL_spec hx b (by simp [V.ref]))]
  unfold opV at h ⊢
  cases ho : o.op <;> simp only [ho] at h hr ⊢ <;> try (first | exact h | (cases hr; done))
  case makeFunc f first caps => cases f <;> exact h
  case load t x =>
    have : loadV P st' t (ρ x) = loadV P st t (ρ x) := by
      unfold loadV
      cases hx : ρ x <;> simp only <;> rw [hx] at hr
      case ptr b ver off => rw [boxA b ver (apartL_spec hr b (by simp [V.ref]))]
      case rp b ver sz i off => rw [anyA b ver (apartL_spec hr b (by simp [V.ref]))]
    rw [this]; exact h
  case convert s d x =>
    have : convV P st' s d (ρ x) = convV P st s d (ρ x) := by
      unfold convV
      have he := elemsA _ hr
      have hr' : ∀ b ver n, ρ x = .sw b ver n → rowAt st' b ver = rowAt st b ver := fun b ver n hx => by
        rw [hx] at hr
        exact rowA b ver (apartL_spec hr b (by simp [V.ref]))
      generalize ρ x = y at he hr'
      cases P.underlying s with
      | none => rfl
      | some u => cases P.underlying d with
        | none => rfl
        | some u' => cases u <;> cases u' <;> first
          | rfl
          | (cases y <;> first | rfl | (simp only [he]; done) | (rename_i b ver n; have := hr' b ver n rfl; simp only [this]; done) | (rename_i v; cases v <;> first | rfl | (simp only [he]; done)))
          | (split <;> first | rfl | (split <;> first | rfl | (rw [hr' _ _ _ rfl]; done) | (split <;> first | rfl | (simp only [he]; done)) | (simp only [he]; done)))
    rw [this]; exact h
  case slice t x lo hi mx =>
    have : ∀ lo hi, sliceV P st' t (ρ x) lo hi = sliceV P st t (ρ x) lo hi := fun lo hi => by
      unfold sliceV
      have hr1 : ∀ b ver n, ρ x = .sw b ver n → rowAny st' b ver = rowAny st b ver := fun b ver n hx => by
        rw [hx] at hr
        exact anyA b ver (apartL_spec hr b (by simp [V.ref]))
      have hr2 : ∀ b ver sz off len, ρ x = .sp b ver sz off len → rowAny st' b ver = rowAny st b ver := fun b ver sz off len hx => by
        rw [hx] at hr
        exact anyA b ver (apartL_spec hr b (by simp [V.ref]))
      have hr3 : ∀ b ver off, ρ x = .ptr b ver off → boxAt st' b ver = boxAt st b ver := fun b ver off hx => by
        rw [hx] at hr
        exact boxA b ver (apartL_spec hr b (by simp [V.ref]))
      generalize ρ x = y at hr1 hr2 hr3
      cases P.underlying t with
      | none => rfl
      | some u => cases u <;> cases y <;> first
        | rfl
        | (rename_i b ver n; have := hr1 b ver n rfl; simp only [this]; done)
        | (rename_i b ver sz off len; have := hr2 b ver sz off len rfl; simp only [this]; done)
        | (rename_i b ver off; have := hr3 b ver off rfl; simp only [this]; done)
        | (rename_i v; cases v <;> rfl)
    cases mx <;> simp only [this] at h ⊢ <;> exact h
  case fieldAddr t x k =>
    have : ∀ off, fieldAddrV st' off (ρ x) = fieldAddrV st off (ρ x) := fun off => by
      cases hx : ρ x <;> simp only [fieldAddrV] <;> rw [hx] at hr
      case ptr b ver o' => rw [boxA b ver (apartL_spec hr b (by simp [V.ref]))]
      case rp b ver sz i o' => rw [anyA b ver (apartL_spec hr b (by simp [V.ref]))]
    simp only [this]; exact h
  case nilCheck x =>
    have : ∀ off, fieldAddrV st' off (ρ x) = fieldAddrV st off (ρ x) := fun off => by
      cases hx : ρ x <;> simp only [fieldAddrV] <;> rw [hx] at hr
      case ptr b ver o' => rw [boxA b ver (apartL_spec hr b (by simp [V.ref]))]
      case rp b ver sz i o' => rw [anyA b ver (apartL_spec hr b (by simp [V.ref]))]
    simp only [this]; exact h
  case indexAddr t x i =>
    have : indexAddrV P st' t (ρ x) (ρ i) = indexAddrV P st t (ρ x) (ρ i) := by
      unfold indexAddrV
      have hr1 : ∀ b ver n, ρ x = .sw b ver n → rowAny st' b ver = rowAny st b ver := fun b ver n hx => by
        rw [hx] at hr
        exact anyA b ver (apartL_spec hr b (by simp [V.ref]))
      have hr2 : ∀ b ver sz off len, ρ x = .sp b ver sz off len → rowAny st' b ver = rowAny st b ver := fun b ver sz off len hx => by
        rw [hx] at hr
        exact anyA b ver (apartL_spec hr b (by simp [V.ref]))
      have hr3 : ∀ b ver off, ρ x = .ptr b ver off → boxAt st' b ver = boxAt st b ver := fun b ver off hx => by
        rw [hx] at hr
        exact boxA b ver (apartL_spec hr b (by simp [V.ref]))
      generalize ρ x = y at hr1 hr2 hr3
      cases asI (ρ i) with
      | none => rfl
      | some i => cases P.underlying t with
        | none => rfl
        | some u => cases u <;> cases y <;> first
          | rfl
          | (rename_i b ver n; have := hr1 b ver n rfl; simp only [this]; done)
          | (rename_i b ver sz off len; have := hr2 b ver sz off len rfl; simp only [this]; done)
          | (rename_i b ver off; have := hr3 b ver off rfl; simp only [this]; done)
    rw [this]; exact h
  case call c =>
    cases hc : c.callee with
    | invoke r m => simp only [hc] at h; exact h
    | value f =>
      simp only [hc, Bool.and_eq_true] at h hr ⊢
      split at h
      case isFalse => cases h
      rename_i hd
      rw [if_pos hd]
      have hcl : ∀ x ∈ c.args.toList.map ρ, x.clo false = true := fun x hx => by
        obtain ⟨q, hq, rfl⟩ := List.mem_map.1 hx
        exact List.all_eq_true.1 hr.2 q hq
      cases hf : ρ f <;> rw [hf] at h hr <;> simp only [callV, reduceCtorEq] at h ⊢
      rename_i g caps
      have hcaps : ∀ x ∈ caps, x.clo false = true := fun x hx => by
        obtain ⟨i, hi⟩ := List.getElem?_of_mem hx
        exact cloL_get (by simpa [V.clo] using hr.1) hi
      have harg : ∀ mv, argsV st' mv (c.args.toList.map ρ ++ caps) = argsV st mv (c.args.toList.map ρ ++ caps) := fun mv => args_closed mv _ fun x hx => by
        rcases List.mem_append.1 hx with hx | hx
        · exact hcl x hx
        · exact hcaps x hx
      obtain ⟨sp, hsp, h2⟩ := Option.bind_eq_some_iff.1 h
      obtain ⟨⟨ys, bs⟩, hys, h3⟩ := Option.bind_eq_some_iff.1 h2
      obtain ⟨r, hr', h4⟩ := Option.bind_eq_some_iff.1 h3
      have hbs := args_nil sp.mv (c.args.toList.map ρ ++ caps) ys bs (fun x hx => by
        rcases List.mem_append.1 hx with hx | hx
        · exact hcl x hx
        · exact hcaps x hx) hys
      subst hbs
      rw [hsp]
      simp only [Option.bind_some, harg, hys, hr']
      simp only [true_or, if_true] at h4 ⊢
      cases r
      case own sz e l => simp at h4
      case obx cs => simp at h4
      case io t r out =>
        exfalso
        obtain ⟨up, hup, he⟩ := Option.map_eq_some_iff.1 h4
        simp only [List.map_nil, List.nil_append, Prod.mk.injEq] at he
        obtain ⟨_, rfl⟩ := he
        unfold backV at hup
        split at hup
        · split at hup <;> simp at hup
        · split at hup <;> simp at hup
        · cases hup
      all_goals exact h4
    | builtin b =>
      simp only [hc] at h hr ⊢
      cases b <;> simp only at h ⊢ <;> try exact h
      · -- append turns a block
        exfalso
        split at h
        case isFalse => cases h
        split at h
        case h_2 => cases h
        split at h
        case isFalse => cases h
        unfold appendV at h
        split at h
        case h_2 => cases h
        obtain ⟨_, _, h2⟩ := Option.bind_eq_some_iff.1 h
        obtain ⟨_, _, h3⟩ := Option.bind_eq_some_iff.1 h2
        obtain ⟨⟨_, _⟩, _, h4⟩ := Option.bind_eq_some_iff.1 h3
        simp only at h4
        split at h4
        case isFalse => cases h4
        split at h4
        · split at h4 <;> simp at h4
        · obtain ⟨⟨_, _, _, _, _⟩, _, h5⟩ := Option.bind_eq_some_iff.1 h4
          simp only at h5
          split at h5 <;> simp at h5
      · -- so does clear
        exfalso
        split at h
        case isTrue => cases h
        split at h
        case h_2 => cases h
        obtain ⟨us, hus, he⟩ := Option.map_eq_some_iff.1 h
        simp only [Prod.mk.injEq] at he
        obtain ⟨_, rfl⟩ := he
        unfold clearV at hus
        split at hus
        case h_2 => cases hus
        obtain ⟨_, _, h2⟩ := Option.bind_eq_some_iff.1 hus
        obtain ⟨⟨_, _, _⟩, _, h3⟩ := Option.bind_eq_some_iff.1 h2
        simp only at h3
        split at h3
        case isFalse => cases h3
        split at h3 <;> simp at h3
      · split at h
        case isFalse => cases h
        rename_i hd
        rw [if_pos hd]
        split at h
        · rename_i t x ht hx
          have hxa : apartL (ρ x).ref B = true := List.all_eq_true.1 hr x (by rw [hx]; simp)
          have : lenV P st' t (ρ x) = lenV P st t (ρ x) := by
            unfold lenV
            have he := elemsA _ hxa
            generalize ρ x = y at he
            cases P.underlying t with
            | none => rfl
            | some u => cases u <;> first
              | rfl
              | (split <;> first | rfl | (simp only [he]; done))
          simp only [this]; exact h
        · cases h

/-- what a step leaves -/
def app (s : S) (o : Oper) (v : V) (u : List (Nat × Blk)) : S := match o.dst with
  | some d => ⟨upd s.env d v, ups s.st u⟩
  | none => ⟨s.env, ups s.st u⟩

/-- one operation of the region, wanted or not -/
def stepN (P : Program) (C : Orc) (E : EqT) (n : Nat) (B T : List Nat) (ops : List Oper) (last : Bool) (o : Oper) (s : S) : Option S :=
  match wants ops s.env o with
  | some none => if last then stepV P C E n o s else stepD P C E n B T o s
  | some (some (c, b)) => if c = b then (if last then stepV P C E n o s else stepD P C E n B T o s) else passV n o s
  | none => none

theorem onG_step {ops : List Oper} {o : Oper} {K : S → Prop} {last : Bool} (h : onG (wants ops s.env o) (thenS (if last then stepV P C E n o s else stepD P C E n B T o s) K) (thenS (passV n o s) K)) : ∃ s', stepN P C E n B T ops last o s = some s' ∧ K s' := by
  have th : ∀ {x : Option S}, thenS x K → ∃ s', x = some s' ∧ K s' := fun {x} h => by
    cases x with
    | none => exact h.elim
    | some s' => exact ⟨s', rfl, h⟩
  unfold stepN
  cases hw : wants ops s.env o with
  | none => rw [hw] at h; exact h.elim
  | some g =>
    rw [hw] at h
    cases g with
    | none => exact th h
    | some p =>
      obtain ⟨c, b⟩ := p
      cases b <;> cases c <;> simp only [onG_yes, onG_no, br_true, br_false] at h <;> simp
      all_goals exact th h

def stepI (P : Program) (C : Orc) (E : EqT) (n : Nat) (B T : List Nat) (ops : List Oper) (i : Nat) (s : S) : Option S :=
  stepN P C E n B T ops (decide (i + 1 = ops.length) && !T.contains 99999) (ops.getD i default) s

def runI (P : Program) (C : Orc) (E : EqT) (n : Nat) (B T : List Nat) (ops : List Oper) : List Nat → S → Option S
  | [], s => some s
  | i :: r, s => (stepI P C E n B T ops i s).bind (runI P C E n B T ops r)

theorem run_of {ops : List Oper} {K : S → Prop} : ∀ (r : List Oper) (k : Nat) (s : S), ops.drop k = r → awpOpsD P C E n B T ops K r s → ∃ s', runI P C E n B T ops (List.range' k r.length) s = some s' ∧ K s'
  | [], k, s, _, h => ⟨s, rfl, h⟩
  | o :: r, k, s, hd, h => by
    have hk : ops[k]? = some o := by
      have := congrArg (·[0]?) hd
      simpa using this
    have hd' : ops.drop (k + 1) = r := by rw [← List.drop_drop, hd]; rfl
    have hlen : ops.length = k + (r.length + 1) := by
      have := congrArg List.length hd
      have hlt := (List.getElem?_eq_some_iff.1 hk).1
      simp at this; omega
    have hgd : ops.getD k default = o := by rw [List.getD_eq_getElem?_getD, hk]; rfl
    rw [List.length_cons, List.range'_succ]
    simp only [runI, stepI, hgd]
    cases r with
    | nil =>
      simp only [awpOpsD] at h
      have hl : decide (k + 1 = ops.length) = true := by simp at hlen; simp; omega
      rw [hl, Bool.true_and]
      unfold stepL at h
      cases hT : T.contains 99999 with
      | true =>
        rw [hT] at h
        obtain ⟨s1, h1, h2⟩ := onG_step (B := B) (T := T) (last := false) (by simpa using h)
        exact ⟨s1, by rw [show (!true) = false from rfl, h1]; rfl, h2⟩
      | false =>
        rw [hT] at h
        obtain ⟨s1, h1, h2⟩ := onG_step (B := B) (T := T) (last := true) (by simpa using h)
        exact ⟨s1, by rw [show (!false) = true from rfl, h1]; rfl, h2⟩
    | cons o' r' =>
      simp only [awpOpsD] at h
      have hl : decide (k + 1 = ops.length) = false := by simp at hlen; simp; omega
      rw [hl, Bool.false_and]
      obtain ⟨s1, h1, h2⟩ := onG_step (B := B) (T := T) (last := false) (by simpa using h)
      obtain ⟨s2, h3, h4⟩ := run_of (o' :: r') (k + 1) s1 hd' h2
      exact ⟨s2, by rw [h1]; simpa using h3, h4⟩

theorem upd_comm {α : Type} (f : Nat → α) {i j : Nat} (h : i ≠ j) (u v : α) : upd (upd f i u) j v = upd (upd f j v) i u := by
  funext k
  simp only [upd]
  split <;> split <;> simp_all

theorem ups_off {u : List (Nat × Blk)} : ∀ (st : Nat → Blk), (∀ p ∈ u, p.1 ∈ B) → ∀ b, b ∉ B → ups st u b = st b := by
  induction u with
  | nil => intro st _ b _; rfl
  | cons p u ih =>
    intro st h b hb
    obtain ⟨i, k⟩ := p
    simp only [ups]
    rw [ih _ (fun q hq => h q (by simp [hq])) b hb]
    simp only [upd]
    rw [if_neg (show ¬ b = i from fun e => hb (e ▸ h (i, k) (by simp)))]

theorem freeOk_congr {o : Oper} {ρ ρ' : Operand → V} (h : ∀ x ∈ o.op.operands, ρ x = ρ' x) : freeOk T o ρ = freeOk T o ρ' := by
  unfold freeOk
  cases ho : o.op <;> simp only [ho, Op.operands] at h ⊢
  case call c =>
    cases hc : c.callee with
    | builtin b =>
      have hargs : c.args.toList.map ρ = c.args.toList.map ρ' := List.map_congr_left fun x hx' => h x (by simp [Call.operands]; right; simpa using hx')
      cases b <;> simp only
      have : ∀ k : Nat, (c.args.toList.all fun x => !((ρ x).ref.contains k)) = (c.args.toList.all fun x => !((ρ' x).ref.contains k)) := fun k => by
        have e : ∀ f : Operand → V, (c.args.toList.all fun x => !((f x).ref.contains k)) = (c.args.toList.map f).all fun v => !(v.ref.contains k) := fun f => by rw [List.all_map]; rfl
        rw [e, e, hargs]
      simp only [this]
    | value f =>
      have hf : ρ f = ρ' f := h f (by simp [Call.operands, hc])
      have hargs : c.args.toList.map ρ = c.args.toList.map ρ' := List.map_congr_left fun x hx' => h x (by simp [Call.operands]; right; simpa using hx')
      have e : ∀ g : Operand → V, (c.args.toList.all fun x => (g x).clo false) = (c.args.toList.map g).all fun v => v.clo false := fun g => by rw [List.all_map]; rfl
      simp only [hf, e, hargs]
    | _ => rfl
theorem hang_off {d d0 : Nat} (hd : d0 ≠ d) (hd1 : d < 1000) (hb : ∀ b, b ≠ d → st' b = st b) : ∀ (cs : List V) (j : Nat), hang st' d0 j cs = hang st d0 j cs ∧ ∀ p ∈ (hang st d0 j cs).2, p.1 ≠ d
  | [], j => ⟨rfl, fun p hp => by simp [hang] at hp⟩
  | c :: r, j => by
    obtain ⟨i1, i2⟩ := hang_off hd hd1 hb r (j + 1)
    have hn : nest d0 j ≠ d := by unfold nest; omega
    cases c with
    | own sz e l =>
      refine ⟨by simp only [hang, i1, hb _ hn], fun p hp => ?_⟩
      simp only [hang, List.mem_cons] at hp
      rcases hp with rfl | hp
      · exact hn
      · exact i2 p hp
    | _ => exact ⟨by simp only [hang, i1], fun p hp => i2 p (by simpa only [hang] using hp)⟩
theorem call_off {d d0 : Nat} {f : V} {args : List V} (hd : d0 ≠ d) (hd1 : d < 1000) (hf : f.clo false = true) (ha : ∀ x ∈ args, x.clo false = true) (hb : ∀ b, b ≠ d → st' b = st b) :
    callV C st' d0 f args = callV C st d0 f args ∧ ∀ v u, callV C st d0 f args = some (v, u) → ∀ p ∈ u, p.1 ≠ d := by
  cases f with
  | fn g caps =>
    have hcl : ∀ l : List V, V.cloL false l = true → ∀ x ∈ l, x.clo false = true := fun l => by
      induction l with
      | nil => intro _ x hx; cases hx
      | cons y l ih =>
        intro h x hx
        simp only [V.cloL, Bool.and_eq_true] at h
        rcases List.mem_cons.1 hx with rfl | hx
        · exact h.1
        · exact ih h.2 x hx
    have hall : ∀ x ∈ args ++ caps, x.clo false = true := fun x hx => by
      rcases List.mem_append.1 hx with hx | hx
      · exact ha x hx
      · exact hcl caps (by simpa [V.clo] using hf) x hx
    have back : ∀ (s : Nat → Blk) (t : Nat) (out : V), backV s ((args ++ caps)[t]?) out = none := fun s t out => by
      cases hx : (args ++ caps)[t]? with
      | none => rfl
      | some x =>
        have := hall x (List.mem_of_getElem? hx)
        cases x <;> simp [V.clo] at this <;> rfl
    simp only [callV]
    cases hC : C g with
    | none => exact ⟨rfl, fun v u h => by cases h⟩
    | some sp =>
      simp only [Option.bind_some]
      rw [args_closed (st := st') (st' := st) sp.mv _ hall]
      cases hA : argsV st sp.mv (args ++ caps) with
      | none => exact ⟨rfl, fun v u h => by cases h⟩
      | some q =>
        obtain ⟨ys, bs⟩ := q
        obtain rfl : bs = [] := args_nil _ _ _ _ hall hA
        simp only [Option.bind_some, true_or, if_true, List.map_nil, List.nil_append]
        cases hr : sp.fn ys with
        | none => exact ⟨rfl, fun v u h => by cases h⟩
        | some r =>
          simp only [Option.bind_some]
          cases r with
          | own sz e l =>
            simp only [hb d0 hd]
            refine ⟨trivial, fun v u h p hp => ?_⟩
            simp only [Option.some.injEq, Prod.mk.injEq] at h
            rw [← h.2] at hp
            simp only [List.mem_singleton] at hp
            rw [hp]; exact hd
          | obx cs =>
            obtain ⟨h1, h2⟩ := hang_off hd hd1 hb cs 0
            simp only [hb d0 hd, h1]
            refine ⟨trivial, fun v u h p hp => ?_⟩
            simp only [Option.some.injEq, Prod.mk.injEq] at h
            rw [← h.2] at hp
            rcases List.mem_append.1 hp with hp | hp
            · exact h2 p hp
            · simp only [List.mem_singleton] at hp
              rw [hp]; exact hd
          | io t r out =>
            simp only [back, Option.map_none]
            exact ⟨trivial, fun v u h => by cases h⟩
          | _ =>
            refine ⟨rfl, fun v u h p hp => ?_⟩
            simp only [Option.some.injEq, Prod.mk.injEq] at h
            rw [← h.2] at hp
            cases hp
  | _ => exact ⟨rfl, fun v u h => by cases h⟩
theorem build_off {d : Nat} {t : TypeId} {len : Nat} {parts : List (Nat × V)} {v : V} {u : List (Nat × Blk)} (h : buildSliceV P st d t len parts = some (v, u)) : (∀ p ∈ u, p.1 = d) ∧ ∀ st' : Nat → Blk, st' d = st d → buildSliceV P st' d t len parts = some (v, u) := by
  refine ⟨fun p hp => ?_, fun st' hs => ?_⟩
  · unfold buildSliceV at h
    split at h
    case h_2 => cases h
    obtain ⟨sz, _, h⟩ := Option.bind_eq_some_iff.1 h
    (repeat' split at h) <;> first | (cases h; done) | (simp only [Option.some.injEq, Prod.mk.injEq] at h; rw [← h.2] at hp; first | (simp only [List.mem_singleton] at hp; rw [hp]) | cases hp)
  · unfold buildSliceV at h ⊢
    simp only [hs]
    exact h
theorem elems_ref {y : V} (h : ∀ b ∈ y.ref, st' b = st b) : elemsOf st' y = elemsOf st y := by
  cases y <;> simp only [elemsOf, rowAt] <;> simp only [V.ref, List.mem_singleton, forall_eq] at h <;> rw [h]
theorem own_ref {y : V} (h : ∀ b ∈ y.ref, st' b = st b) : ownRow st' y = ownRow st y := by
  cases y <;> simp only [ownRow, rowAt] <;> simp only [V.ref, List.mem_singleton, forall_eq] at h <;> rw [h]
theorem own_in {y : V} {b v sz e : Nat} {l : List V} (h : ownRow st y = some (b, v, sz, e, l)) : b ∈ y.ref := by
  cases y <;> simp only [ownRow] at h <;> try (cases h; done)
  · obtain ⟨q, _, e⟩ := Option.map_eq_some_iff.1 h
    simp at e; simp [V.ref, e.1]
  · obtain ⟨q, _, e⟩ := Option.bind_eq_some_iff.1 h
    split at e
    · simp at e; simp [V.ref, e.1]
    · cases e
theorem append_off {d d0 : Nat} {t : TypeId} {x y : V} (hd : d0 ≠ d) (hx : d ∉ x.ref) (hy : d ∉ y.ref) (hb : ∀ b, b ≠ d → st' b = st b) :
    appendV P st' d0 t x y = appendV P st d0 t x y ∧ ∀ v u, appendV P st d0 t x y = some (v, u) → ∀ p ∈ u, p.1 ≠ d := by
  have e1 := elems_ref (st := st) (st' := st') (y := y) fun b h => hb b fun e => hy (e ▸ h)
  have e2 := own_ref (st := st) (st' := st') (y := x) fun b h => hb b fun e => hx (e ▸ h)
  have e3 := hb d0 hd
  constructor
  · unfold appendV
    split
    case h_2 => rfl
    congr 1; funext sz; congr 1; funext by_
    congr 1
    · split <;> first | rfl | rw [e1]
    · funext ⟨ok, ys⟩
      simp only
      split
      case isFalse => rfl
      split
      · rw [e3]
      · rw [e2]
  · intro v u h p hp
    unfold appendV at h
    split at h
    case h_2 => cases h
    obtain ⟨sz, _, h⟩ := Option.bind_eq_some_iff.1 h
    obtain ⟨by_, _, h⟩ := Option.bind_eq_some_iff.1 h
    obtain ⟨⟨ok, ys⟩, _, h⟩ := Option.bind_eq_some_iff.1 h
    simp only at h
    split at h
    case isFalse => cases h
    split at h
    · split at h
      · cases h; simp only [List.mem_singleton] at hp; rw [hp]; exact hd
      · cases h
    · obtain ⟨⟨b, ver, sz', e', l⟩, ho, h⟩ := Option.bind_eq_some_iff.1 h
      simp only at h
      split at h
      · cases h; simp only [List.mem_singleton] at hp; rw [hp]
        exact fun e => hx (e ▸ own_in ho)
      · cases h

/-- what a step comes to, and that it comes to the same where nothing turned that it reads -/
theorem step_eff {ops : List Oper} {o : Oper} (h : stepN P C E n B T ops false o s = some s') :
    ∃ v u, (turns T o = false → u = []) ∧ (∀ p ∈ u, p.1 ∈ B) ∧ s' = app s o v u ∧
      ∀ env' st', (∀ t ∈ o.looksAt ops.toArray, env' t = s.env t) → (turns T o = true → st' = s.st) → (turns T o = false → ∀ b, b ∉ B → st' b = s.st b) →
        stepN P C E n B T ops false o ⟨env', st'⟩ = some (app ⟨env', st'⟩ o v u) := by
  have wc : ∀ env', (∀ t ∈ o.looksAt ops.toArray, env' t = s.env t) → wants ops env' o = wants ops s.env o := fun env' he => by
    unfold wants
    cases hg : o.guard with
    | none => rfl
    | some jb =>
      obtain ⟨j, b⟩ := jb
      simp only
      cases hj : (ops[j]?).bind (·.dst) with
      | none => rfl
      | some t =>
        simp only
        rw [he t (by
          unfold Oper.looksAt
          refine List.mem_append_right _ ?_
          simp [hg, hj])]
  have ec : ∀ env', (∀ t ∈ o.looksAt ops.toArray, env' t = s.env t) → ∀ x ∈ o.op.operands, ev env' x = ev s.env x := fun env' he x hx => by
    cases x with
    | tmp t => exact he t (List.mem_append_left _ (List.mem_filterMap.2 ⟨.tmp t, by simpa using hx, rfl⟩))
    | _ => rfl
  have rc : ∀ env', (∀ t ∈ o.looksAt ops.toArray, env' t = s.env t) → readsOk B o.op (ev s.env) = true → readsOk B o.op (ev env') = true := fun env' he h => by
    have hx := ec env' he
    unfold readsOk at h ⊢
    cases ho : o.op <;> simp only [ho, Op.operands] at h hx ⊢ <;> try exact h
    case load t x => rw [hx x (by simp)]; exact h
    case convert a b x => rw [hx x (by simp)]; exact h
    case slice t x lo hi mx => rw [hx x (by simp)]; exact h
    case fieldAddr t x k => rw [hx x (by simp)]; exact h
    case nilCheck x => rw [hx x (by simp)]; exact h
    case indexAddr t x i => rw [hx x (by simp)]; exact h
    case call c =>
      have hargs : ∀ x ∈ c.args.toList, ev env' x = ev s.env x := fun x hx' => hx x (by simp [Call.operands]; right; simpa using hx')
      cases hc : c.callee with
      | invoke r m => simp only [hc] at h ⊢; exact h
      | builtin b =>
        simp only [hc, Bool.or_eq_true] at h ⊢
        refine h.imp id fun h => List.all_eq_true.2 fun x hx' => ?_
        rw [hargs x hx']; exact List.all_eq_true.1 h x hx'
      | value f =>
        simp only [hc, Bool.or_eq_true, Bool.and_eq_true] at h ⊢
        refine h.imp id fun h => ⟨?_, List.all_eq_true.2 fun x hx' => ?_⟩
        · rw [hx f (by simp [Call.operands, hc])]; exact h.1
        · rw [hargs x hx']; exact List.all_eq_true.1 h.2 x hx'
  have sd : ∀ s'', stepD P C E n B T o s = some s'' → ∃ v u, (turns T o = false → u = []) ∧ (∀ p ∈ u, p.1 ∈ B) ∧ s'' = app s o v u ∧
      ∀ env' st', (∀ t ∈ o.looksAt ops.toArray, env' t = s.env t) → (turns T o = true → st' = s.st) → (turns T o = false → ∀ b, b ∉ B → st' b = s.st b) → stepD P C E n B T o ⟨env', st'⟩ = some (app ⟨env', st'⟩ o v u) := fun s'' h => by
    unfold stepD at h
    cases ht : turns T o with
    | true =>
      rw [ht] at h
      simp only [if_true] at h
      split at h
      case h_2 => cases h
      rename_i v u hop
      split at h
      case isFalse => cases h
      rename_i hall0
      have hall : u.all (fun p => B.contains p.1) = true := (Bool.and_eq_true .. ▸ hall0 : _ ∧ _).2
      have hfree : freeOk T o (ev s.env) = true := (Bool.and_eq_true .. ▸ hall0 : _ ∧ _).1
      refine ⟨v, u, fun h => (by cases h), fun p hp => by simpa using List.all_eq_true.1 hall p hp, ?_, fun env' st' he h1 _ => ?_⟩
      · unfold app
        cases hd : o.dst with
        | none => rw [hd] at h; simp only [Option.some.injEq] at h; exact h.symm
        | some d =>
          rw [hd] at h
          simp only at h
          split at h
          · simp only [Option.some.injEq] at h; exact h.symm
          · cases h
      · have := h1 rfl
        subst this
        unfold stepD app
        rw [ht]
        simp only [if_true]
        rw [opV_congr (ec env' he), hop, freeOk_congr (ec env' he)]
        simp only [hall, hfree, Bool.and_self, if_true]
        cases hd : o.dst with
        | none => rfl
        | some d =>
          rw [hd] at h
          simp only at h ⊢
          split at h
          · rename_i hdn; rw [if_pos hdn]
          · cases h
    | false =>
      rw [ht] at h
      simp only [Bool.false_eq_true, if_false] at h
      split at h
      case isFalse => cases h
      rename_i hr
      split at h
      case h_2 => cases h
      rename_i v hop
      refine ⟨v, [], fun _ => rfl, fun p hp => by simp at hp, ?_, fun env' st' he _ h2 => ?_⟩
      · unfold app
        cases hd : o.dst with
        | none => rw [hd] at h; simp only [Option.some.injEq] at h; exact h.symm
        | some d =>
          rw [hd] at h
          simp only at h
          split at h
          · simp only [Option.some.injEq] at h; exact h.symm
          · cases h
      · unfold stepD app
        rw [ht]
        simp only [Bool.false_eq_true, if_false, rc env' he hr, if_true]
        have hop2 : opV P C E o (ev env') s.st = some (v, []) := by rw [opV_congr (ec env' he)]; exact hop
        rw [opV_off hop2 (rc env' he hr) (h2 rfl)]
        simp only
        cases hd : o.dst with
        | none => rfl
        | some d =>
          rw [hd] at h
          simp only at h ⊢
          split at h
          · rename_i hdn; rw [if_pos hdn]; rfl
          · cases h
  have sp : ∀ s'', passV n o s = some s'' → s'' = app s o (.s undef) [] ∧ ∀ env' st', passV n o ⟨env', st'⟩ = some (app ⟨env', st'⟩ o (.s undef) []) := fun s'' h => by
    unfold passV at h
    unfold passV app
    cases hd : o.dst with
    | none =>
      rw [hd] at h
      simp only [Option.some.injEq] at h
      exact ⟨h.symm, fun env' st' => rfl⟩
    | some d =>
      rw [hd] at h
      simp only at h
      split at h
      case isFalse => cases h
      rename_i hdn
      simp only [Option.some.injEq] at h
      exact ⟨h.symm, fun env' st' => by simp [hdn, ups]⟩
  unfold stepN at h ⊢
  simp only [Bool.false_eq_true, if_false] at h ⊢
  cases hw : wants ops s.env o with
  | none => rw [hw] at h; cases h
  | some g =>
    rw [hw] at h
    cases g with
    | none =>
      obtain ⟨v, u, h1, h2, h3, h4⟩ := sd s' h
      exact ⟨v, u, h1, h2, h3, fun env' st' he a b => by simp only [wc env' he, hw]; exact h4 env' st' he a b⟩
    | some p =>
      obtain ⟨c, b⟩ := p
      simp only at h
      by_cases hcb : c = b
      · rw [if_pos hcb] at h
        obtain ⟨v, u, h1, h2, h3, h4⟩ := sd s' h
        exact ⟨v, u, h1, h2, h3, fun env' st' he a b => by simp only [wc env' he, hw, if_pos hcb]; exact h4 env' st' he a b⟩
      · rw [if_neg hcb] at h
        obtain ⟨h1, h2⟩ := sp s' h
        exact ⟨.s undef, [], fun _ => rfl, fun p hp => by simp at hp, h1, fun env' st' he _ _ => by simp only [wc env' he, hw, if_neg hcb]; exact h2 env' st'⟩

theorem app_st (s : S) (o : Oper) (v : V) (u : List (Nat × Blk)) : (app s o v u).st = ups s.st u := by unfold app; cases o.dst <;> rfl
theorem app_env (s : S) (o : Oper) (v : V) (u : List (Nat × Blk)) (t : Nat) (h : ∀ d, o.dst = some d → t ≠ d) : (app s o v u).env t = s.env t := by
  unfold app
  cases hd : o.dst with
  | none => rfl
  | some d => simp only [upd]; rw [if_neg (h d hd)]

theorem step_comm0 {ops : List Oper} {x y : Oper} (hap : x.apart ops.toArray y = true) (ht : ¬ (turns T x = true ∧ turns T y = true)) {s1 s2 : S} (h1 : stepN P C E n B T ops false x s = some s1) (h2 : stepN P C E n B T ops false y s1 = some s2) :
    ∃ s1', stepN P C E n B T ops false y s = some s1' ∧ stepN P C E n B T ops false x s1' = some s2 := by
  obtain ⟨a1, a2, a3⟩ := Oper.apart_spec hap
  obtain ⟨v, u, hv1, hv2, hv3, hv4⟩ := step_eff h1
  obtain ⟨v', u', hu1, hu2, hu3, hu4⟩ := step_eff h2
  have hst1 : s1.st = ups s.st u := by rw [hv3, app_st]
  have hy := hu4 s.env s.st (fun t htt => by rw [hv3]; exact (app_env s x v u t fun d hd e => a1 d hd (e ▸ htt)).symm)
    (fun hty => by
      have : turns T x = false := by cases hx : turns T x <;> simp_all
      rw [hst1, hv1 this]; rfl)
    (fun _ b hb => by rw [hst1]; exact (ups_off s.st hv2 b hb).symm)
  refine ⟨_, hy, ?_⟩
  have e0 : (⟨s.env, s.st⟩ : S) = s := rfl
  rw [e0]
  have hx := hv4 (app s y v' u').env (app s y v' u').st (fun t htt => app_env s y v' u' t fun d hd e => a3 d hd (e ▸ htt))
    (fun htx => by
      have : turns T y = false := by cases hy : turns T y <;> simp_all
      rw [app_st, hu1 this]; rfl)
    (fun _ b hb => by rw [app_st]; exact ups_off s.st hu2 b hb)
  have e1 : (⟨(app s y v' u').env, (app s y v' u').st⟩ : S) = app s y v' u' := rfl
  rw [e1] at hx
  rw [hx, hu3, hv3]
  congr 1
  have hst : ups (ups s.st u') u = ups (ups s.st u) u' := by
    cases hxt : turns T x with
    | false => rw [hv1 hxt]; rfl
    | true =>
      have : turns T y = false := by cases hy : turns T y <;> simp_all
      rw [hu1 this]; rfl
  unfold app
  cases hdx : x.dst with
  | none => cases hdy : y.dst <;> simp [hst]
  | some dx =>
    cases hdy : y.dst with
    | none => simp [hst]
    | some dy =>
      simp only [hst]
      rw [upd_comm s.env (fun e => a2 dx hdx (by rw [hdy, e])) v' v]

theorem step_free {ops : List Oper} {o : Oper} (ht : turns T o = true) (h : stepN P C E n B T ops false o s = some s') :
    ∃ v u, s' = app s o v u ∧
      (isNew o = true → (∀ p ∈ u, o.dst = some p.1) ∧ ∀ env' st', (∀ t ∈ o.looksAt ops.toArray, env' t = s.env t) → (∀ d, o.dst = some d → st' d = s.st d) → stepN P C E n B T ops false o ⟨env', st'⟩ = some (app ⟨env', st'⟩ o v u)) ∧
      (isAp o = true → ∀ d b, d < 1000 → b < 1000 → pr d b ∈ T → o.dst = some b → d ≠ b → (∀ p ∈ u, p.1 ≠ d) ∧ ∀ env' st', (∀ t ∈ o.looksAt ops.toArray, env' t = s.env t) → (∀ b, b ≠ d → st' b = s.st b) → stepN P C E n B T ops false o ⟨env', st'⟩ = some (app ⟨env', st'⟩ o v u)) ∧
      (isRd o = true → u = [] ∧ ∀ env', (∀ t ∈ o.looksAt ops.toArray, env' t = s.env t) → stepN P C E n B T ops false o ⟨env', s.st⟩ = some (app ⟨env', s.st⟩ o v u)) := by
  have wc : ∀ env', (∀ t ∈ o.looksAt ops.toArray, env' t = s.env t) → wants ops env' o = wants ops s.env o := fun env' he => by
    unfold wants
    cases hg : o.guard with
    | none => rfl
    | some jb =>
      obtain ⟨j, b⟩ := jb
      simp only
      cases hj : (ops[j]?).bind (·.dst) with
      | none => rfl
      | some t =>
        simp only
        rw [he t (by
          unfold Oper.looksAt
          refine List.mem_append_right _ ?_
          simp [hg, hj])]
  have ec : ∀ env', (∀ t ∈ o.looksAt ops.toArray, env' t = s.env t) → ∀ x ∈ o.op.operands, ev env' x = ev s.env x := fun env' he x hx => by
    cases x with
    | tmp t => exact he t (List.mem_append_left _ (List.mem_filterMap.2 ⟨.tmp t, by simpa using hx, rfl⟩))
    | _ => rfl
  have sd : ∀ s'', stepD P C E n B T o s = some s'' → ∃ v u, s'' = app s o v u ∧ opV P C E o (ev s.env) s.st = some (v, u) ∧ freeOk T o (ev s.env) = true ∧
      ∀ env' st', (∀ t ∈ o.looksAt ops.toArray, env' t = s.env t) → opV P C E o (ev s.env) st' = some (v, u) → stepD P C E n B T o ⟨env', st'⟩ = some (app ⟨env', st'⟩ o v u) := fun s'' h => by
    unfold stepD at h
    rw [ht] at h
    simp only [if_true] at h
    split at h
    case h_2 => cases h
    rename_i v u hop
    split at h
    case isFalse => cases h
    rename_i hall0
    have hall : u.all (fun p => B.contains p.1) = true := (Bool.and_eq_true .. ▸ hall0 : _ ∧ _).2
    have hfree : freeOk T o (ev s.env) = true := (Bool.and_eq_true .. ▸ hall0 : _ ∧ _).1
    refine ⟨v, u, ?_, hop, hfree, fun env' st' he ho2 => ?_⟩
    · unfold app
      cases hd : o.dst with
      | none => rw [hd] at h; simp only [Option.some.injEq] at h; exact h.symm
      | some d =>
        rw [hd] at h
        simp only at h
        split at h
        · simp only [Option.some.injEq] at h; exact h.symm
        · cases h
    · unfold stepD app
      rw [ht]
      simp only [if_true]
      rw [opV_congr (ec env' he), ho2, freeOk_congr (ec env' he)]
      simp only [hall, hfree, Bool.and_self, if_true]
      cases hd : o.dst with
      | none => rfl
      | some d =>
        rw [hd] at h
        simp only at h ⊢
        split at h
        · rename_i hdn; rw [if_pos hdn]
        · cases h
  have sal : ∀ v u, isNew o = true → opV P C E o (ev s.env) s.st = some (v, u) → (∀ p ∈ u, o.dst = some p.1) ∧ ∀ st', (∀ d, o.dst = some d → st' d = s.st d) → opV P C E o (ev s.env) st' = some (v, u) := fun v u hal hop => by
    unfold isNew at hal
    split at hal
    case h_3 => cases hal
    case h_1 =>
      rename_i t d ho hd
      unfold opV at hop ⊢
      rw [ho, hd] at hop
      simp only [Option.getD_some] at hop
      obtain ⟨z, hz, he⟩ := Option.map_eq_some_iff.1 hop
      simp only [Prod.mk.injEq] at he
      obtain ⟨rfl, rfl⟩ := he
      refine ⟨fun p hp => ?_, fun st' hs => ?_⟩
      · simp only [List.mem_singleton] at hp; rw [hp, hd]
      · rw [ho, hd]
        simp only [Option.getD_some, hz, Option.map_some, hs d hd]
    case h_2 =>
      rename_i t n parts d ho hd
      unfold opV at hop ⊢
      rw [ho, hd] at hop
      simp only [Option.getD_some, Option.isSome_some, if_true] at hop
      obtain ⟨q1, q2⟩ := build_off (P := P) hop
      refine ⟨fun p hp => by rw [hd, q1 p hp], fun st' hs => ?_⟩
      rw [ho, hd]
      simp only [Option.getD_some, Option.isSome_some, if_true]
      exact q2 st' (hs d hd)
  have sap : ∀ v u, isAp o = true → freeOk T o (ev s.env) = true → opV P C E o (ev s.env) s.st = some (v, u) → ∀ d b, d < 1000 → b < 1000 → pr d b ∈ T → o.dst = some b → d ≠ b → (∀ p ∈ u, p.1 ≠ d) ∧ ∀ st', (∀ b, b ≠ d → st' b = s.st b) → opV P C E o (ev s.env) st' = some (v, u) := fun v u hap hfr hop d b hd1 hb1 hdT hob hdb => by
    by_cases hnew : isNew o = true
    · obtain ⟨p1, p2⟩ := sal v u hnew hop
      refine ⟨fun p hp e => ?_, fun st' hs => p2 st' fun d' hd' => hs d' fun e => ?_⟩
      · have := p1 p hp
        rw [hob, e] at this
        exact hdb (Option.some.inj this).symm
      · rw [hob] at hd'
        exact hdb (e ▸ (Option.some.inj hd').symm)
    unfold freeOk at hfr
    have hf := List.all_eq_true.1 hfr _ hdT
    have hlt : decide (pr d b < 1000000) = false := by unfold pr; simp; omega
    have hm : (pr d b - 1000000) % 1000 = b := by unfold pr; omega
    have hdv : (pr d b - 1000000) / 1000 = d := by unfold pr; omega
    rw [hlt, hm, hdv, hob] at hf
    simp only [Option.getD_some, bne_self_eq_false, Bool.false_or] at hf
    have hne : b ≠ d := fun e => hdb e.symm
    unfold isNew at hnew
    unfold isAp at hap
    split at hap
    case h_1 => rename_i t d0 ho hd; rw [ho, hd] at hnew; exact absurd rfl hnew
    case h_2 => rename_i t n parts d0 ho hd; rw [ho, hd] at hnew; exact absurd rfl hnew
    case h_4 => cases hap
    clear hnew
    rename_i c d0 ho hd
    obtain rfl : d0 = b := Option.some.inj (hd.symm.trans hob)
    rw [ho] at hf
    split at hap
    case h_3 => cases hap
    case h_2 =>
      rename_i f hc
      simp only [hc, Bool.and_eq_true, decide_eq_true_eq, List.all_eq_true] at hf
      obtain ⟨_, hf1, hf2⟩ := hf
      unfold opV at hop ⊢
      rw [ho, hd] at hop
      rw [ho, hd]
      simp only [hc, Option.isSome_some, if_true, Option.getD_some] at hop ⊢
      have hal : ∀ x ∈ c.args.toList.map (ev s.env), x.clo false = true := fun x hx => by
        obtain ⟨y, hy, rfl⟩ := List.mem_map.1 hx
        exact hf2 y hy
      refine ⟨fun p hp => (call_off (st := s.st) (st' := s.st) hne hd1 hf1 hal (fun _ _ => rfl)).2 v u hop p hp, fun st' hs => ?_⟩
      rw [(call_off hne hd1 hf1 hal hs).1]
      exact hop
    case h_1 =>
      rename_i hc
      simp only [hc] at hf
      unfold opV at hop ⊢
      rw [ho, hd] at hop
      rw [ho, hd]
      simp only [hc, Option.isSome_some, if_true, Option.getD_some] at hop ⊢
      split at hop
      case h_2 => cases hop
      rename_i t1 t2 x y hty hxy
      split at hop
      case isFalse => cases hop
      rename_i htt
      rw [hxy] at hf
      have hx : d ∉ (ev s.env x).ref := by have := List.all_eq_true.1 hf x (by simp); simpa using this
      have hy : d ∉ (ev s.env y).ref := by have := List.all_eq_true.1 hf y (by simp); simpa using this
      refine ⟨fun p hp => (append_off (P := P) (t := t1) (st := s.st) (st' := s.st) hne hx hy (fun _ _ => rfl)).2 v u hop p hp, fun st' hs => ?_⟩
      rw [(append_off (P := P) (t := t1) hne hx hy hs).1]
      rw [if_pos htt]
      exact hop
  have srd : ∀ v u, isRd o = true → opV P C E o (ev s.env) s.st = some (v, u) → u = [] := fun v u hrd hop => by
    unfold isRd at hrd
    unfold opV at hop
    cases ho : o.op <;> rw [ho] at hrd hop <;> first | (cases hrd; done) | skip
    all_goals simp only at hop
    case load t x =>
      obtain ⟨_, _, he⟩ := Option.map_eq_some_iff.1 hop
      cases he; rfl
    case indexAddr t x i =>
      obtain ⟨_, _, he⟩ := Option.map_eq_some_iff.1 hop
      cases he; rfl
    case nilCheck x =>
      obtain ⟨_, _, he⟩ := Option.map_eq_some_iff.1 hop
      cases he; rfl
    case fieldAddr t x k =>
      obtain ⟨_, _, hop⟩ := Option.bind_eq_some_iff.1 hop
      obtain ⟨_, _, he⟩ := Option.map_eq_some_iff.1 hop
      cases he; rfl
  have sp : ∀ s'', passV n o s = some s'' → s'' = app s o (.s undef) [] ∧ ∀ env' st', passV n o ⟨env', st'⟩ = some (app ⟨env', st'⟩ o (.s undef) []) := fun s'' h => by
    unfold passV at h
    unfold passV app
    cases hd : o.dst with
    | none =>
      rw [hd] at h
      simp only [Option.some.injEq] at h
      exact ⟨h.symm, fun env' st' => rfl⟩
    | some d =>
      rw [hd] at h
      simp only at h
      split at h
      case isFalse => cases h
      rename_i hdn
      simp only [Option.some.injEq] at h
      exact ⟨h.symm, fun env' st' => by simp [hdn, ups]⟩
  have fin : ∀ s'', stepD P C E n B T o s = some s'' → (∀ env', (∀ t ∈ o.looksAt ops.toArray, env' t = s.env t) → ∀ st', stepN P C E n B T ops false o ⟨env', st'⟩ = stepD P C E n B T o ⟨env', st'⟩) → ∃ v u, s'' = app s o v u ∧
      (isNew o = true → (∀ p ∈ u, o.dst = some p.1) ∧ ∀ env' st', (∀ t ∈ o.looksAt ops.toArray, env' t = s.env t) → (∀ d, o.dst = some d → st' d = s.st d) → stepN P C E n B T ops false o ⟨env', st'⟩ = some (app ⟨env', st'⟩ o v u)) ∧
      (isAp o = true → ∀ d b, d < 1000 → b < 1000 → pr d b ∈ T → o.dst = some b → d ≠ b → (∀ p ∈ u, p.1 ≠ d) ∧ ∀ env' st', (∀ t ∈ o.looksAt ops.toArray, env' t = s.env t) → (∀ b, b ≠ d → st' b = s.st b) → stepN P C E n B T ops false o ⟨env', st'⟩ = some (app ⟨env', st'⟩ o v u)) ∧
      (isRd o = true → u = [] ∧ ∀ env', (∀ t ∈ o.looksAt ops.toArray, env' t = s.env t) → stepN P C E n B T ops false o ⟨env', s.st⟩ = some (app ⟨env', s.st⟩ o v u)) := fun s'' h hN => by
    obtain ⟨v, u, e1, e2, e3, e4⟩ := sd s'' h
    refine ⟨v, u, e1, fun hal => ?_, fun hap d b hd1 hb1 hdT hob hdd => ?_, fun hrd => ⟨srd v u hrd e2, fun env' he => ?_⟩⟩
    · obtain ⟨p1, p2⟩ := sal v u hal e2
      exact ⟨p1, fun env' st' he hs => by rw [hN env' he st']; exact e4 env' st' he (p2 st' hs)⟩
    · obtain ⟨p1, p2⟩ := sap v u hap e3 e2 d b hd1 hb1 hdT hob hdd
      exact ⟨p1, fun env' st' he hs => by rw [hN env' he st']; exact e4 env' st' he (p2 st' hs)⟩
    · rw [hN env' he s.st]; exact e4 env' s.st he e2
  have hh := h
  unfold stepN at h
  simp only [Bool.false_eq_true, if_false] at h
  cases hw : wants ops s.env o with
  | none => rw [hw] at h; cases h
  | some g =>
    rw [hw] at h
    cases g with
    | none => exact fin s' h fun env' he st' => by unfold stepN; simp only [wc env' he, hw, Bool.false_eq_true, if_false]
    | some p =>
      obtain ⟨c, b⟩ := p
      simp only at h
      by_cases hcb : c = b
      · rw [if_pos hcb] at h
        exact fin s' h fun env' he st' => by unfold stepN; simp only [wc env' he, hw, if_pos hcb, Bool.false_eq_true, if_false]
      · rw [if_neg hcb] at h
        obtain ⟨h1, h2⟩ := sp s' h
        have hN : ∀ env' st', (∀ t ∈ o.looksAt ops.toArray, env' t = s.env t) → stepN P C E n B T ops false o ⟨env', st'⟩ = some (app ⟨env', st'⟩ o (.s undef) []) := fun env' st' he => by
          unfold stepN; simp only [wc env' he, hw, if_neg hcb]; exact h2 env' st'
        exact ⟨.s undef, [], h1, fun _ => ⟨fun p hp => by simp at hp, fun env' st' he _ => hN env' st' he⟩, fun _ d b _ _ _ _ _ => ⟨fun p hp => by simp at hp, fun env' st' he _ => hN env' st' he⟩, fun _ => ⟨rfl, fun env' he => hN env' s.st he⟩⟩
theorem ups_at {u : List (Nat × Blk)} : ∀ (st : Nat → Blk) (d : Nat), (∀ p ∈ u, p.1 ≠ d) → ups st u d = st d := by
  induction u with
  | nil => intro st d _; rfl
  | cons p u ih =>
    intro st d h
    obtain ⟨i, k⟩ := p
    simp only [ups]
    rw [ih _ d (fun q hq => h q (by simp [hq]))]
    simp only [upd]
    rw [if_neg (show ¬ d = i from fun e => h (i, k) (by simp) e.symm)]
theorem ups_in {u : List (Nat × Blk)} {d : Nat} : ∀ (st st' : Nat → Blk), (∀ p ∈ u, p.1 = d) → (∀ b, b ≠ d → ups st u b = st b) := fun st _ h b hb => by
  refine ups_at st b fun p hp e => hb ?_
  rw [← e, h p hp]
theorem ups_upd {u : List (Nat × Blk)} {d : Nat} {k : Blk} : ∀ (st : Nat → Blk), (∀ p ∈ u, p.1 ≠ d) → ups (upd st d k) u = upd (ups st u) d k := by
  induction u with
  | nil => intro st _; rfl
  | cons p u ih =>
    intro st h
    obtain ⟨i, k'⟩ := p
    simp only [ups]
    rw [upd_comm st (fun e => h (i, k') (by simp) e.symm), ih _ (fun q hq => h q (by simp [hq]))]
theorem ups_comm {u u' : List (Nat × Blk)} {d : Nat} (st : Nat → Blk) (h : ∀ p ∈ u, p.1 = d) (h' : ∀ p ∈ u', p.1 ≠ d) : ups (ups st u) u' = ups (ups st u') u := by
  induction u generalizing st with
  | nil => rfl
  | cons p u ih =>
    obtain ⟨i, k⟩ := p
    have : i = d := h (i, k) (by simp)
    subst this
    simp only [ups]
    rw [ih _ (fun q hq => h q (by simp [hq])), ups_upd _ h']
theorem step_comm {ops : List Oper} {x y : Oper} (hap : x.apart ops.toArray y = true) (ht : ¬ (turns T x = true ∧ turns T y = true ∧ freeP T x y = false)) {s1 s2 : S} (h1 : stepN P C E n B T ops false x s = some s1) (h2 : stepN P C E n B T ops false y s1 = some s2) :
    ∃ s1', stepN P C E n B T ops false y s = some s1' ∧ stepN P C E n B T ops false x s1' = some s2 := by
  by_cases hb : turns T x = true ∧ turns T y = true
  case neg => exact step_comm0 hap hb h1 h2
  obtain ⟨tx, ty⟩ := hb
  have hfp : freeP T x y = true := by
    cases c : freeP T x y with
    | true => rfl
    | false => exact absurd ⟨tx, ty, c⟩ ht
  obtain ⟨a1, a2, a3⟩ := Oper.apart_spec hap
  obtain ⟨v, u, hv3, hvA, hvP, hvR⟩ := step_free tx h1
  obtain ⟨v', u', hu3, huA, huP, huR⟩ := step_free ty h2
  have hst1 : s1.st = ups s.st u := by rw [hv3, app_st]
  have hea : ∀ t ∈ y.looksAt ops.toArray, s.env t = s1.env t := fun t htt => by rw [hv3]; exact (app_env s x v u t fun d hd e => a1 d hd (e ▸ htt)).symm
  have heb : ∀ t ∈ x.looksAt ops.toArray, (app s y v' u').env t = s.env t := fun t htt => app_env s y v' u' t fun d hd e => a3 d hd (e ▸ htt)
  have done : stepN P C E n B T ops false y s = some (app s y v' u') → stepN P C E n B T ops false x (app s y v' u') = some (app (app s y v' u') x v u) → ups (ups s.st u') u = ups (ups s.st u) u' → ∃ s1', stepN P C E n B T ops false y s = some s1' ∧ stepN P C E n B T ops false x s1' = some s2 := fun hy hx hst => by
    refine ⟨_, hy, ?_⟩
    rw [hx, hu3, hv3]
    congr 1
    unfold app
    cases hdx : x.dst with
    | none => cases hdy : y.dst <;> simp [hst]
    | some dx =>
      cases hdy : y.dst with
      | none => simp [hst]
      | some dy =>
        simp only [hst]
        rw [upd_comm s.env (fun e => a2 dx hdx (by rw [hdy, e])) v' v]
  unfold freeP at hfp
  simp only [Bool.or_eq_true, Bool.and_eq_true] at hfp
  have nm : ∀ {x y : Oper}, named T x y = true → ∃ a b, x.dst = some a ∧ y.dst = some b ∧ a < 1000 ∧ b < 1000 ∧ pr a b ∈ T := fun {x y} h => by
    unfold named at h
    split at h
    · rename_i a b ha hb
      simp only [Bool.and_eq_true, decide_eq_true_eq] at h
      exact ⟨a, b, ha, hb, h.1, h.2.1, by simpa using h.2.2⟩
    · cases h
  rcases hfp with ⟨⟨hal, hp⟩, hn⟩ | ⟨⟨hp, hal⟩, hn⟩ | ⟨hrx, hry⟩
  · obtain ⟨d, b, hd, hb, hd1, hb1, hdT⟩ := nm hn
    obtain ⟨p1, p2⟩ := hvA hal
    have p1' : ∀ p ∈ u, p.1 = d := fun p hp => by have := p1 p hp; rw [hd] at this; cases this; rfl
    obtain ⟨q1, q2⟩ := huP hp d b hd1 hb1 hdT hb (fun e => a2 d hd (by rw [hb, e]))
    refine done (q2 s.env s.st hea fun b hb => by rw [hst1]; exact (ups_in s.st s.st p1' b hb).symm) (p2 _ _ heb fun d' hd' => ?_) (ups_comm s.st p1' q1).symm
    obtain rfl : d = d' := Option.some.inj (hd.symm.trans hd')
    show (app s y v' u').st d = s.st d
    rw [app_st]; exact ups_at s.st d q1
  · obtain ⟨d, b, hd, hb, hd1, hb1, hdT⟩ := nm hn
    obtain ⟨p1, p2⟩ := huA hal
    have p1' : ∀ p ∈ u', p.1 = d := fun p hp => by have := p1 p hp; rw [hd] at this; cases this; rfl
    obtain ⟨q1, q2⟩ := hvP hp d b hd1 hb1 hdT hb (fun e => a2 b hb (by rw [hd, e]))
    refine done (p2 s.env s.st hea fun d' hd' => ?_) (q2 _ _ heb fun b hb => by show (app s y v' u').st b = s.st b; rw [app_st]; exact ups_in s.st s.st p1' b hb) (ups_comm s.st p1' q1)
    obtain rfl : d = d' := Option.some.inj (hd.symm.trans hd')
    rw [hst1]; exact (ups_at s.st d q1).symm
  · obtain ⟨rfl, p2⟩ := hvR hrx
    obtain ⟨rfl, q2⟩ := huR hry
    have hs1 : s1.st = s.st := by rw [hst1]; rfl
    rw [hs1] at q2
    refine done (q2 s.env hea) ?_ rfl
    have e : app s y v' [] = ⟨(app s y v' []).env, s.st⟩ := by
      unfold app
      cases y.dst <;> rfl
    rw [e]
    exact p2 _ heb

theorem bubble {ops : List Oper} {i : Nat} (hi : i + 1 ≠ ops.length ∨ True) : ∀ (l : List Nat) (s s2 : S) (r : List Nat), (∀ j ∈ l, (decide (i + 1 = ops.length) && !T.contains 99999) = false ∧ (decide (j + 1 = ops.length) && !T.contains 99999) = false ∧ (ops.getD j default).apart ops.toArray (ops.getD i default) = true ∧ ¬ (turns T (ops.getD j default) = true ∧ turns T (ops.getD i default) = true ∧ freeP T (ops.getD j default) (ops.getD i default) = false)) →
    runI P C E n B T ops (l ++ i :: r) s = some s2 → ∃ s1, stepI P C E n B T ops i s = some s1 ∧ runI P C E n B T ops (l ++ r) s1 = some s2
  | [], s, s2, r, _, h => by
    simp only [List.nil_append, runI] at h ⊢
    obtain ⟨s1, h1, h2⟩ := Option.bind_eq_some_iff.1 h
    exact ⟨s1, h1, h2⟩
  | j :: l, s, s2, r, hl, h => by
    simp only [List.cons_append, runI] at h
    obtain ⟨s1, h1, h2⟩ := Option.bind_eq_some_iff.1 h
    obtain ⟨s3, h3, h4⟩ := bubble hi l s1 s2 r (fun z hz => hl z (by simp [hz])) h2
    obtain ⟨b0, b1, b2, b3⟩ := hl j (by simp)
    have f1 := b1
    have f2 := b0
    unfold stepI at h1 h3
    rw [f1] at h1
    rw [f2] at h3
    obtain ⟨s4, h5, h6⟩ := step_comm b2 b3 h1 h3
    refine ⟨s4, by unfold stepI; rw [f2]; exact h5, ?_⟩
    simp only [List.cons_append, runI, stepI, f1, h6, Option.bind_some]
    exact h4

/-- a step of the reckoning, and the run's -/
theorem stepI_sound (hC : ∀ g sp, C g = some sp → Impl P g sp) (hE : EqOk P E) {ops : List Oper} {o : Oper} {i : Nat} (ho : ops[i]? = some o) (h : stepI P C E n B T ops i s = some s') (hr : Rel w0 I n s a w η) {K : Act → World → Prop} {Q : Exit → Act → World → Prop}
    (hK : ∀ η' a' w', Rel w0 I n s' a' w' η' → K a' w') : wpOp P ops.toArray Q i K a w := by
  have ho' : ops.toArray[i]? = some o := by simpa using ho
  have hgd : ops.getD i default = o := by rw [List.getD_eq_getElem?_getD, ho]; rfl
  unfold stepI at h
  rw [hgd] at h
  have goV : stepV P C E n o s = some s' → o.wp P a w K Q := fun h => op_sound hC hE hr h hK
  have goD : stepD P C E n B T o s = some s' → stepV P C E n o s = some s' := fun h => by
    unfold stepD at h
    unfold stepV
    split at h
    · split at h
      case h_2 => cases h
      rename_i v u hop
      split at h
      case isFalse => cases h
      rw [hop]
      exact h
    · split at h
      case isFalse => cases h
      split at h
      case h_2 => cases h
      rename_i v hop
      rw [hop]
      simpa [ups] using h
  have go : (if (decide (i + 1 = ops.length) && !T.contains 99999) = true then stepV P C E n o s else stepD P C E n B T o s) = some s' → o.wp P a w K Q := fun h => by
    split at h
    · exact goV h
    · exact goV (goD h)
  have pass : passV n o s = some s' → K (a.put o.dst undef) w := fun h => by
    unfold passV at h
    cases hd : o.dst with
    | none => rw [hd] at h; simp only [Option.some.injEq] at h; subst h; exact hK η a w hr
    | some d =>
      rw [hd] at h
      simp only at h
      split at h
      · rename_i hdn
        simp only [Option.some.injEq] at h
        subst h
        exact hK η _ w (Rel.put (env := s.env) (st := s.st) hr (.s _) hdn)
      · cases h
  unfold wpOp
  simp only [ho']
  unfold stepN wants at h
  unfold Region.wanted
  cases hg : o.guard with
  | none =>
    rw [hg] at h
    simp only [if_true]
    exact .inl (go h)
  | some jb =>
    obtain ⟨j, b⟩ := jb
    rw [hg] at h
    simp only at h
    cases hj : (ops[j]?).bind (·.dst) with
    | none => rw [hj] at h; cases h
    | some t =>
      rw [hj] at h
      simp only at h
      cases he : s.env t <;> (rw [he] at h; try (cases h; done))
      rename_i v
      cases v <;> try (cases h; done)
      case tuple arr =>
        have hv := hr.env t
        rw [he] at hv
        have hv' := hv.s_inv
        have hy : yielded ops.toArray a.tmps j = none := by
          unfold yielded
          have : ((ops.toArray[j]?).bind (·.dst)) = some t := by simpa using hj
          rw [this]
          simp only [Option.bind_some]
          rw [Array.getD_eq_getD_getElem?] at hv'
          cases hq : a.tmps[t]? with
          | none => rfl
          | some q => rw [hq] at hv'; simp at hv'; subst hv'; rfl
        simp only [hy]
        simp only at h
        rw [if_neg (show ¬ (!b) = b by cases b <;> simp)] at h
        rw [if_neg (by simp)]
        exact pass h
      rename_i c
      have hv := hr.env t
      rw [he] at hv
      have hv' := hv.s_inv
      have hy : yielded ops.toArray a.tmps j = some c := by
        unfold yielded
        have : ((ops.toArray[j]?).bind (·.dst)) = some t := by simpa using hj
        rw [this]
        simp only [Option.bind_some]
        rw [Array.getD_eq_getD_getElem?] at hv'
        cases hq : a.tmps[t]? with
        | none => rw [hq] at hv'; simp [undef] at hv'
        | some q => rw [hq] at hv'; simp at hv'; subst hv'; rfl
      simp only [hy]
      simp only at h
      by_cases hcb : c = b
      · rw [if_pos hcb] at h
        subst hcb
        simp
        exact .inl (go h)
      · rw [if_neg hcb] at h
        rw [if_neg (by simpa using hcb)]
        exact pass h

/-- what is not listed yet, in the text's order -/
def rest (ops : List Oper) (listed : Array Bool) : List Nat := (List.range ops.length).filter fun i => !listed.getD i true

theorem rest_split {ops : List Oper} {listed : Array Bool} (hsz : listed.size = ops.length) {i : Nat} (hi : i ∈ rest ops listed) :
    ∃ l r, rest ops listed = l ++ i :: r ∧ (∀ j ∈ l, j < i) ∧ rest ops (listed.setIfInBounds i true) = l ++ r := by
  unfold rest at hi ⊢
  have hmem := List.mem_filter.1 hi
  have hlt : i < ops.length := by simpa using hmem.1
  have e : List.range ops.length = List.range i ++ i :: List.range' (i + 1) (ops.length - (i + 1)) := by
    rw [List.range_eq_range', List.range_eq_range']
    have h1 : ops.length = i + (1 + (ops.length - (i + 1))) := by omega
    conv => lhs; rw [h1]
    rw [← List.range'_append_1, ← List.range'_append_1]
    simp
  refine ⟨(List.range i).filter fun i => !listed.getD i true, (List.range' (i + 1) (ops.length - (i + 1))).filter fun i => !listed.getD i true, ?_, fun j hj => ?_, ?_⟩
  · rw [e, List.filter_append, List.filter_cons, if_pos hmem.2]
  · have := (List.mem_filter.1 hj).1
    simpa using this
  · have hset : (listed.setIfInBounds i true).getD i true = true := by
      rw [Array.getD_eq_getD_getElem?]
      simp [hsz, hlt]
    have hne : ∀ j, j ≠ i → (listed.setIfInBounds i true).getD j true = listed.getD j true := fun j hj => by
      simp [Array.getD_eq_getD_getElem?, Array.getElem?_setIfInBounds_ne (Ne.symm hj)]
    rw [e, List.filter_append, List.filter_cons, if_neg (by rw [hset]; simp)]
    congr 1
    · exact List.filter_congr fun j hj => by rw [hne j (by have := List.mem_range.1 hj; omega)]
    · exact List.filter_congr fun j hj => by
        rw [hne j (by have := List.mem_range'_1.1 hj; omega)]

theorem mem_rest {ops : List Oper} {listed : Array Bool} {i : Nat} : i ∈ rest ops listed ↔ i < ops.length ∧ listed.getD i true = false := by
  unfold rest
  rw [List.mem_filter]
  simp

theorem ready_spec {ops : List Oper} {listed : Array Bool} {i : Nat} (h : i ∈ Region.ready .any ops.toArray listed) :
    i ∈ rest ops listed ∧ ∃ o, ops[i]? = some o ∧ ∀ e ∈ o.after, Region.binds .any e = true → listed.getD e.on false = true := by
  unfold Region.ready at h
  obtain ⟨h1, h2⟩ := List.mem_filter.1 h
  simp only [Bool.and_eq_true, Bool.not_eq_true'] at h2
  have hlt : i < ops.length := by simpa using h1
  refine ⟨mem_rest.2 ⟨hlt, h2.1⟩, ops[i], List.getElem?_eq_getElem hlt, fun e he hb => ?_⟩
  have h3 := h2.2
  have hg : ops.toArray[i]? = some ops[i] := by simp [hlt]
  rw [hg] at h3
  simp only [Option.map_some, Option.getD_some] at h3
  have := Array.all_eq_true'.1 h3 e he
  simpa [hb] using this

theorem low_spec {ops : List Oper} (h : lowOk ops.toArray = true) {j : Nat} (hj : j < ops.length) : ∀ e ∈ ops[j].after, Region.binds .any e = true → e.on < j := by
  intro e he hb
  unfold lowOk at h
  have h2 := List.all_eq_true.1 h j (by simpa using hj)
  have hg : ops.toArray[j]? = some ops[j] := by simp [hj]
  rw [hg] at h2
  simp only at h2
  have := Array.all_eq_true'.1 h2 e he
  simpa [hb] using this

/-- all that must stand ahead of what is listed is listed -/
def Shut (ops : List Oper) (listed : Array Bool) : Prop := ∀ j o, ops[j]? = some o → listed.getD j false = true → ∀ e ∈ o.after, Region.binds .any e = true → listed.getD e.on false = true

theorem anc_listed {ops : List Oper} {listed : Array Bool} {A : List (List Nat)} (hA : ancOk A ops.toArray = true) (hsh : Shut ops listed) : ∀ (m j i : Nat), j < m → j < ops.length → i ∈ A.getD j [] → (∀ o, ops[j]? = some o → ∀ e ∈ o.after, Region.binds .any e = true → listed.getD e.on false = true) → listed.getD i false = true := by
  intro m
  induction m with
  | zero => intro j i hj; omega
  | succ m ih =>
    intro j i hjm hj hi hed
    unfold ancOk at hA
    have h1 := List.all_eq_true.1 hA j (by simpa using hj)
    have h2 := List.all_eq_true.1 h1 i hi
    have hg : ops.toArray[j]? = some ops[j] := by simp [hj]
    rw [hg] at h2
    simp only at h2
    obtain ⟨e, he, hc⟩ := Array.any_eq_true'.1 h2
    simp only [Bool.and_eq_true, Bool.or_eq_true, beq_iff_eq, decide_eq_true_eq] at hc
    obtain ⟨⟨hb, hlt⟩, hc⟩ := hc
    have hl := hed ops[j] (List.getElem?_eq_getElem hj) e he hb
    rcases hc with hc | hc
    · rw [← hc]; exact hl
    · have hon : e.on < ops.length := by omega
      exact ih e.on i (by omega) hon (by simpa using hc) fun o ho e' he' hb' => hsh e.on o ho hl e' he' hb'

theorem ready_some {ops : List Oper} {listed : Array Bool} (hsz : listed.size = ops.length) (hok : lowOk ops.toArray = true) (h : Region.ready .any ops.toArray listed = []) : rest ops listed = [] := by
  refine Classical.byContradiction fun hne => ?_
  have key : ∀ m, ∀ i, i ∈ rest ops listed → i < m → False := by
    intro m
    induction m with
    | zero => intro i _ hi; omega
    | succ m ih =>
      intro i hi him
      rcases Nat.lt_or_ge i m with h' | h'
      · exact ih i hi h'
      · have him' : i = m := by omega
        subst him'
        obtain ⟨hlt, hl⟩ := mem_rest.1 hi
        have : i ∈ Region.ready .any ops.toArray listed := by
          unfold Region.ready
          refine List.mem_filter.2 ⟨by simpa using hlt, ?_⟩
          have hg : ops.toArray[i]? = some ops[i] := by simp [hlt]
          rw [hg]
          simp only [Option.map_some, Option.getD_some, Bool.and_eq_true, Bool.not_eq_true']
          refine ⟨hl, Array.all_eq_true'.2 fun e he => ?_⟩
          cases hb : Region.binds .any e with
          | false => rfl
          | true =>
            have hlow := low_spec hok hlt e he hb
            simp only [Bool.not_true, Bool.false_or]
            have hnot : ¬ e.on ∈ rest ops listed := fun hin => ih e.on hin hlow
            rw [mem_rest] at hnot
            have hel : e.on < ops.length := by omega
            have : listed.getD e.on true ≠ false := fun h => hnot ⟨hel, h⟩
            have hls : e.on < listed.size := by omega
            simp [Array.getD_eq_getD_getElem?, hls] at this ⊢
            exact this
        rw [h] at this
        cases this
  obtain ⟨i, hi⟩ : ∃ i, i ∈ rest ops listed := List.exists_mem_of_ne_nil _ hne
  exact key (i + 1) i hi (by omega)

theorem any_sound (hC : ∀ g sp, C g = some sp → Impl P g sp) (hE : EqOk P E) (ops : List Oper) (hok : drawOk T ops.toArray = true) {K : S → Prop} {Q : Exit → Act → World → Prop}
    (hK : ∀ s' a' w' η', K s' → Rel w0 I n s' a' w' η' → Q .normal a' w') :
    ∀ (fuel : Nat) (listed : Array Bool) (s sf : S) (a : Act) (w : World) (η : Nat → Value), listed.size = ops.length → Shut ops listed → (rest ops listed).length ≤ fuel → runI P C E n B T ops (rest ops listed) s = some sf → K sf → Rel w0 I n s a w η →
      wpAny P .any ops.toArray Q fuel listed a w
  | 0, listed, s, sf, a, w, η, hsz, hsh, hlen, hrun, hk, hr => by
    have h0 : rest ops listed = [] := List.eq_nil_of_length_eq_zero (by omega)
    refine ⟨List.eq_nil_iff_forall_not_mem.2 fun i hi => ?_, ?_⟩
    · have := (ready_spec hi).1
      rw [h0] at this
      cases this
    · rw [h0] at hrun
      simp only [runI, Option.some.injEq] at hrun
      subst hrun
      exact hK s a w η hk hr
  | fuel + 1, listed, s, sf, a, w, η, hsz, hsh, hlen, hrun, hk, hr => by
    have hok' := hok
    unfold drawOk at hok'
    simp only [Bool.and_eq_true] at hok'
    obtain ⟨⟨hlow, hanc⟩, hpairs⟩ := hok'
    refine ⟨fun hnil => ?_, fun i hi => ?_⟩
    · have h0 := ready_some hsz hlow hnil
      rw [h0] at hrun
      simp only [runI, Option.some.injEq] at hrun
      subst hrun
      exact hK s a w η hk hr
    · obtain ⟨hmem, o, ho, hedges⟩ := ready_spec hi
      obtain ⟨l, r, hsplit, hlowl, hset⟩ := rest_split hsz hmem
      have hilt := (mem_rest.1 hmem).1
      have hoi : ops.getD i default = o := by rw [List.getD_eq_getElem?_getD, ho]; rfl
      rw [hsplit] at hrun
      obtain ⟨s1, h1, h2⟩ := bubble (.inr trivial) l s sf _ (fun j hj => by
        have hji := hlowl j hj
        have hjlt : j < ops.length := by omega
        have hjm : j ∈ rest ops listed := by rw [hsplit]; simp [hj]
        have hp := List.all_eq_true.1 (List.all_eq_true.1 hpairs i (by simpa using hilt)) j (by simpa using hji)
        unfold pairOk at hp
        have g1 : ops.toArray[j]? = some ops[j] := by simp [hjlt]
        have g2 : ops.toArray[i]? = some o := by simpa using ho
        rw [g1, g2] at hp
        have hgd : ops.getD j default = ops[j] := by rw [List.getD_eq_getElem?_getD, List.getElem?_eq_getElem hjlt]; rfl
        rw [hgd, hoi]
        simp only [Bool.or_eq_true, Bool.and_eq_true, decide_eq_true_eq, Bool.not_eq_true'] at hp
        rcases hp with hp | hp
        · exfalso
          have hl := anc_listed hanc hsh (i + 1) i j (by omega) hilt (by simpa using hp) (fun o' ho' => by rw [ho] at ho'; cases ho'; exact hedges)
          have hu := (mem_rest.1 hjm).2
          have hls : j < listed.size := by omega
          simp [Array.getD_eq_getD_getElem?, hls] at hl hu
          rw [hl] at hu; cases hu
        · obtain ⟨⟨hp1, hp2⟩, hp3⟩ := hp
          refine ⟨?_, ?_, hp3, fun hh => ?_⟩
          · rcases hp1 with hp1 | hp1
            · have hp1' : i + 1 < ops.length := by simpa using hp1
              have : decide (i + 1 = ops.length) = false := by simp; omega
              rw [this]; rfl
            · rw [hp1]; simp
          · rcases hp1 with hp1 | hp1
            · have hp1' : i + 1 < ops.length := by simpa using hp1
              have : decide (j + 1 = ops.length) = false := by simp; omega
              rw [this]; rfl
            · rw [hp1]; simp
          rw [hh.1, hh.2.1, hh.2.2] at hp2
          cases hp2) hrun
      refine stepI_sound hC hE ho h1 hr fun η' a' w' hr' => ?_
      refine any_sound hC hE ops hok hK fuel (listed.setIfInBounds i true) s1 sf a' w' η' (by simpa using hsz) ?_ ?_ ?_ hk hr'
      · intro j o' hj hl e he hb
        have grow : ∀ q, listed.getD q false = true → (listed.setIfInBounds i true).getD q false = true := fun q hq => by
          by_cases hqi : q = i
          · subst hqi
            have hls : q < listed.size := by omega
            simp [Array.getD_eq_getD_getElem?, hls]
          · simp [Array.getD_eq_getD_getElem?, Array.getElem?_setIfInBounds_ne (Ne.symm hqi)] at hq ⊢
            exact hq
        by_cases hji : j = i
        · subst hji
          rw [ho] at hj
          cases hj
          exact grow _ (hedges e he hb)
        · refine grow _ (hsh j o' hj ?_ e he hb)
          simp [Array.getD_eq_getD_getElem?, Array.getElem?_setIfInBounds_ne (Ne.symm hji)] at hl ⊢
          exact hl
      · rw [hset]
        have : (rest ops listed).length = (l ++ i :: r).length := by rw [hsplit]
        simp only [List.length_append, List.length_cons] at this ⊢
        omega
      · rw [hset]; exact h2

theorem region_sound (hm : P.follows .mixedOrders = true) (hC : ∀ g sp, C g = some sp → Impl P g sp) (hE : EqOk P E) {id : Nat} {ops : Array Oper} (hok : drawOk T ops = true) {K : S → Prop} {Q : Exit → Act → World → Prop}
    (hK : ∀ s' a' w' η', K s' → Rel w0 I n s' a' w' η' → Q .normal a' w') (h : awpOpsD P C E n B T ops.toList K ops.toList s) (hr : Rel w0 I n s a w η) : (Code.region id ops true).wp P Q a w := by
  refine wp_region_any hm ?_
  obtain ⟨sf, h1, h2⟩ := run_of ops.toList 0 s rfl h
  have hr' : Rel w0 I n ⟨s.env, s.st⟩ a w.drew η := (Rel.quiet (env := s.env) (st := s.st) (w' := w.drew) hr rfl rfl rfl (Nat.le_refl _) (fun _ _ => rfl)).1
  have e0 : rest ops.toList (Array.replicate ops.size false) = List.range' 0 ops.toList.length := by
    rw [← List.range_eq_range']
    unfold rest
    refine List.filter_eq_self.2 fun i hi => ?_
    have : i < ops.size := by simpa using hi
    simp [Array.getD_eq_getD_getElem?, this]
  have := any_sound (w0 := w0) (I := I) (n := n) (B := B) (T := T) hC hE ops.toList (by simpa using hok) hK ops.size (Array.replicate ops.size false) s sf a w.drew η (by simp) (by
    intro j o _ hl
    exfalso
    rcases Nat.lt_or_ge j ops.size with h' | h' <;> simp [Array.getD_eq_getD_getElem?, h'] at hl) (by rw [e0]; simp) (by rw [e0]; exact h1) h2 hr'
  simpa using this
end

end Go.Proofs.YtkfmecmmbnehjaaGreat
/-
The plain reckoning of a function's whole text stands for its run. No condition.
-/
namespace Go.Proofs.YtkfmecmmbnehjaaGreat
set_option linter.unusedSimpArgs false
set_option linter.unusedVariables false

section
variable {P : Program} {w0 w : World} {I : Ow} {n : Nat} {s s' : S} {env : Nat → V} {st : Nat → Blk} {a : Act} {η : Nat → Value} {C : Orc} {E : EqT}

theorem Rel.undef (h : Rel w0 I n s a w η) {d : Nat} (hd : d < n) : Rel w0 I n ⟨upd s.env d (.s undef), s.st⟩ (a.put (some d) undef) w η :=
  Rel.put (env := s.env) (st := s.st) h (.s _) hd

theorem ops_sound (hC : ∀ g sp, C g = some sp → Impl P g sp) (hE : EqOk P E) (ops : List Oper) {K : S → Prop} {Q : Exit → Act → World → Prop}
    (hK : ∀ s' a' w' η', K s' → Rel w0 I n s' a' w' η' → Q .normal a' w') :
    ∀ (r : List Oper) (k : Nat) (s : S) (a : Act) (w : World) (η : Nat → Value), ops.drop k = r → awpOps P C E n ops K r s → Rel w0 I n s a w η → wpOps P ops.toArray Q (List.range' k r.length) a w
  | [], k, s, a, w, η, _, h, hr => by simpa [wpOps] using hK s a w η h hr
  | o :: r, k, s, a, w, η, hd, h, hr => by
    have hk : ops[k]? = some o := by
      have := congrArg (·[0]?) hd
      simpa using this
    have hd' : ops.drop (k + 1) = r := by
      rw [← List.drop_drop, hd]; rfl
    rw [List.length_cons, List.range'_succ]
    unfold wpOps
    have hk' : ops.toArray[k]? = some o := by simpa using hk
    simp only [hk']
    unfold awpOps at h
    have go : thenS (stepV P C E n o s) (awpOps P C E n ops K r) → o.wp P a w (wpOps P ops.toArray Q (List.range' (k + 1) r.length)) Q := fun h => by
      cases hs : stepV P C E n o s with
      | none => rw [hs] at h; exact h.elim
      | some s' =>
        rw [hs] at h
        exact op_sound hC hE hr hs fun η' a' w' hr' => ops_sound hC hE ops hK r (k + 1) s' a' w' η' hd' h hr'
    have pass : thenS (passV n o s) (awpOps P C E n ops K r) → wpOps P ops.toArray Q (List.range' (k + 1) r.length) (a.put o.dst undef) w := fun h => by
      unfold passV at h
      cases hdst : o.dst with
      | none =>
        rw [hdst] at h
        exact ops_sound hC hE ops hK r (k + 1) s a w η hd' h hr
      | some d =>
        rw [hdst] at h
        simp only at h
        split at h
        · rename_i hdn
          exact ops_sound hC hE ops hK r (k + 1) _ _ w η hd' h (hr.undef hdn)
        · exact h.elim
    unfold wants at h
    unfold Region.wanted
    cases hg : o.guard with
    | none =>
      rw [hg] at h
      simp only [if_true]
      exact .inl (go h)
    | some jb =>
      obtain ⟨j, b⟩ := jb
      rw [hg] at h
      simp only at h
      cases hj : (ops[j]?).bind (·.dst) with
      | none => rw [hj] at h; exact h.elim
      | some t =>
        rw [hj] at h
        simp only at h
        cases he : s.env t <;> (rw [he] at h; try (exact h.elim))
        rename_i v
        cases v <;> try (exact h.elim)
        case tuple arr =>
          have hv := hr.env t
          rw [he] at hv
          have hv' := hv.s_inv
          have hy : yielded ops.toArray a.tmps j = none := by
            unfold yielded
            have : ((ops.toArray[j]?).bind (·.dst)) = some t := by simpa using hj
            rw [this]
            simp only [Option.bind_some]
            rw [Array.getD_eq_getD_getElem?] at hv'
            cases hq : a.tmps[t]? with
            | none => rfl
            | some q => rw [hq] at hv'; simp at hv'; subst hv'; rfl
          simp only [hy]
          cases b <;> simp only [onG_yes, onG_no, br_true, br_false, Bool.not_true, Bool.not_false] at h <;> simp
          all_goals exact pass h
        rename_i c
        have hv := hr.env t
        rw [he] at hv
        have hv' := hv.s_inv
        have hy : yielded ops.toArray a.tmps j = some c := by
          unfold yielded
          have : ((ops.toArray[j]?).bind (·.dst)) = some t := by simpa using hj
          rw [this]
          simp only [Option.bind_some]
          rw [Array.getD_eq_getD_getElem?] at hv'
          cases hq : a.tmps[t]? with
          | none => rw [hq] at hv'; simp [undef] at hv'
          | some q => rw [hq] at hv'; simp at hv'; subst hv'; rfl
        simp only [hy]
        cases b <;> cases c <;> simp only [onG_yes, onG_no, br_true, br_false] at h <;> simp
        · exact .inl (go h)
        · exact pass h
        · exact pass h
        · exact .inl (go h)

def Ex.to : Ex → Exit
  | .normal => .normal
  | .exit id => .exit id
  | .ret => .ret

theorem thenS_mono {x : Option S} {K K' : S → Prop} (hK : ∀ s, K s → K' s) (h : thenS x K) : thenS x K' := by
  cases x with
  | none => exact h.elim
  | some s => exact hK s h
theorem onG_mono {g : Option (Option (Bool × Bool))} {A A' B B' : Prop} (hA : A → A') (hB : B → B') (h : onG g A B) : onG g A' B' := by
  match g, h with
  | some none, h => exact hA h
  | some (some (b, true)), h => exact ⟨fun e => hA (h.1 e), fun e => hB (h.2 e)⟩
  | some (some (b, false)), h => exact ⟨fun e => hB (h.1 e), fun e => hA (h.2 e)⟩
theorem Kseq_mono {K K' : Ex → S → Prop} {y y' : S → Prop} (hK : ∀ e s, K e s → K' e s) (hy : ∀ s, y s → y' s) : ∀ e s, Kseq K y e s → Kseq K' y' e s := fun e s h => by
  cases e with
  | normal => exact hy s h
  | exit id => exact hK _ s h
  | ret => exact hK _ s h
theorem Kblock_mono {K K' : Ex → S → Prop} {id : Nat} (hK : ∀ e s, K e s → K' e s) : ∀ e s, Kblock id K e s → Kblock id K' e s := fun e s h => by
  cases e with
  | normal => exact hK _ s h
  | ret => exact hK _ s h
  | exit i =>
    simp only [Kblock] at h ⊢
    split
    · rename_i hi; rw [if_pos hi] at h; exact hK _ s h
    · rename_i hi; rw [if_neg hi] at h; exact hK _ s h
theorem awpOps_mono {ops : List Oper} {K K' : S → Prop} (hK : ∀ s, K s → K' s) : ∀ (r : List Oper) (s : S), awpOps P C E n ops K r s → awpOps P C E n ops K' r s
  | [], s, h => hK s h
  | o :: r, s, h => onG_mono (thenS_mono (awpOps_mono hK r)) (thenS_mono (awpOps_mono hK r)) h
theorem awpOpsD_mono {B T : List Nat} {ops : List Oper} {K K' : S → Prop} (hK : ∀ s, K s → K' s) : ∀ (r : List Oper) (s : S), awpOpsD P C E n B T ops K r s → awpOpsD P C E n B T ops K' r s
  | [], s, h => hK s h
  | [o], s, h => onG_mono (thenS_mono hK) (thenS_mono hK) h
  | o :: o' :: r, s, h => onG_mono (thenS_mono (awpOpsD_mono hK (o' :: r))) (thenS_mono (awpOpsD_mono hK (o' :: r))) h
/-- who wants less gets it, too -/
theorem awp_mono : ∀ (c : Code) {K K' : Ex → S → Prop} (_ : ∀ e s, K e s → K' e s) (s : S), awp P C E n c K s → awp P C E n c K' s := by
  intro c
  induction c with
  | skip => exact fun hK s h => hK _ s h
  | label l => exact fun hK s h => hK _ s h
  | exit id => exact fun hK s h => hK _ s h
  | ret => exact fun hK s h => hK _ s h
  | region id ops draw =>
    intro K K' hK s h
    cases draw with
    | true =>
      obtain ⟨B, T, hok, h⟩ := h
      exact ⟨B, T, hok, awpOpsD_mono (hK .normal) _ s h⟩
    | false => exact awpOps_mono (hK .normal) _ s h
  | seq x y ihx ihy => exact fun hK s h => ihx (Kseq_mono hK (fun s h => ihy hK s h)) s h
  | cond c x y ihx ihy =>
    intro K K' hK s h
    unfold awp at h ⊢
    cases hb : asB (ev s.env c) with
    | none => rw [hb] at h; exact h.elim
    | some b =>
      rw [hb] at h
      exact ⟨fun e => ihx hK s (h.1 e), fun e => ihy hK s (h.2 e)⟩
  | block id c ih => exact fun hK s h => ih (Kblock_mono hK) s h
  | loop c ih => exact fun hK s h Z hZ => h Z fun s s' hg hs => hZ s s' hg (ih (Kseq_mono hK fun _ h => h) s' hs)
  | rangeFunc f ps as b => exact fun _ s h => h.elim
  | scope b => exact fun _ s h => h.elim
  | goto l => exact fun _ s h => h.elim
  | refuse why => exact fun _ s h => h.elim
/-- a loop is a round, and then the loop -/
theorem loop_round {c : Code} {K : Ex → S → Prop} {s : S} (h : awp P C E n c (Kseq K (awp P C E n (.loop c) K)) s) : awp P C E n (.loop c) K s :=
  fun Z hZ => hZ s s (Gh.refl s) (awp_mono c (Kseq_mono (fun _ _ h => h) fun s' h' => h' Z hZ) s h)
/-- .. and at each round's beginning what stands in memory may be seen in another form -/
theorem loop_invG {c : Code} {K : Ex → S → Prop} (J : S → Prop) (μ : S → Nat) (h : ∀ s, J s → ∃ s', Gh s s' ∧ awp P C E n c (Kseq K (fun s'' => J s'' ∧ μ s'' < μ s)) s') {s : S} (h0 : J s) : awp P C E n (.loop c) K s := by
  intro Z hZ
  have key : ∀ m s, μ s = m → J s → Z s := by
    intro m
    induction m using Nat.strongRecOn with
    | _ m ih =>
      intro s hm hs
      obtain ⟨s', hg, hs'⟩ := h s hs
      exact hZ s s' hg (awp_mono c (Kseq_mono (fun _ _ h => h) fun s'' ⟨h1, h2⟩ => ih (μ s'') (hm ▸ h2) s'' rfl h1) s' hs')
  exact key _ s rfl h0
theorem loop_inv {c : Code} {K : Ex → S → Prop} (J : S → Prop) (μ : S → Nat) (h : ∀ s, J s → awp P C E n c (Kseq K (fun s' => J s' ∧ μ s' < μ s)) s) {s : S} (h0 : J s) : awp P C E n (.loop c) K s :=
  loop_invG J μ (fun s hs => ⟨s, Gh.refl s, h s hs⟩) h0

theorem awp_sound (hm : P.follows .mixedOrders = true) (hC : ∀ g sp, C g = some sp → Impl P g sp) (hE : EqOk P E) : ∀ (c : Code) (K : Ex → S → Prop) (Q : Exit → Act → World → Prop) (s : S) (a : Act) (w : World) (η : Nat → Value),
    awp P C E n c K s → Rel w0 I n s a w η → (∀ e s' a' w' η', K e s' → Rel w0 I n s' a' w' η' → Q e.to a' w') → c.wp P Q a w := by
  intro c
  induction c with
  | skip => exact fun K Q s a w η h hr hK => wp_skip (hK .normal s a w η h hr)
  | label l => exact fun K Q s a w η h hr hK => wp_label (hK .normal s a w η h hr)
  | exit id => exact fun K Q s a w η h hr hK => wp_exit (hK (.exit id) s a w η h hr)
  | ret => exact fun K Q s a w η h hr hK => wp_ret (hK .ret s a w η h hr)
  | region id ops draw =>
    intro K Q s a w η h hr hK
    cases draw with
    | true =>
      obtain ⟨B, T, hok, h⟩ := h
      exact region_sound hm hC hE hok (fun s' a' w' η' hk hr' => hK .normal s' a' w' η' hk hr') h hr
    | false =>
    refine wp_region ?_
    have := ops_sound hC hE ops.toList (K := K .normal) (Q := Q) (fun s' a' w' η' hk hr' => hK .normal s' a' w' η' hk hr') ops.toList 0 s a w η rfl h hr
    simpa [List.range_eq_range'] using this
  | seq x y ihx ihy =>
    intro K Q s a w η h hr hK
    refine wp_seq (ihx (Kseq K (awp P C E n y K)) _ s a w η h hr fun e s' a' w' η' hk hr' => ?_)
    cases e with
    | normal => exact ihy K Q s' a' w' η' hk hr' hK
    | exit id => exact hK (.exit id) s' a' w' η' hk hr'
    | ret => exact hK .ret s' a' w' η' hk hr'
  | cond c x y ihx ihy =>
    intro K Q s a w η h hr hK
    unfold awp at h
    cases hb : asB (ev s.env c) with
    | none => rw [hb] at h; exact h.elim
    | some b =>
      rw [hb] at h
      have hv := hr.eval c
      unfold asB at hb
      split at hb
      · rename_i b' he
        simp only [Option.some.injEq] at hb
        subst hb
        rw [he] at hv
        refine wp_cond hv.s_inv ?_
        cases b' with
        | true => exact ihx K Q s a w η (by simpa using h) hr hK
        | false => exact ihy K Q s a w η (by simpa using h) hr hK
      · cases hb
  | block id c ih =>
    intro K Q s a w η h hr hK
    refine wp_block (ih (Kblock id K) _ s a w η h hr fun e s' a' w' η' hk hr' => ?_)
    cases e with
    | normal => exact hK .normal s' a' w' η' hk hr'
    | ret => exact hK .ret s' a' w' η' hk hr'
    | exit i =>
      simp only [Kblock] at hk
      simp only [Ex.to, Exit.inBlock]
      split
      · rename_i hi
        rw [if_pos hi] at hk
        exact hK .normal s' a' w' η' hk hr'
      · rename_i hi
        rw [if_neg hi] at hk
        exact hK (.exit i) s' a' w' η' hk hr'
  | loop c ih =>
    intro K Q s a w η h hr hK
    intro b k cs
    have key := h (fun s => ∀ a w η, Rel w0 I n s a w η → ∃ e a' w', Q e a' w' ∧ Arrives P (lone (b.at a (.code c :: .inLoop c :: k)) cs w) b k cs e a' w') (fun s s' hg hs a w η hr => by
      have hr := hg w0 I n a w η hr
      have hw := ih _ (fun e a' w' => match e with
        | .normal => ∃ s' η', (∀ a w η, Rel w0 I n s' a w η → ∃ e a' w', Q e a' w' ∧ Arrives P (lone (b.at a (.code c :: .inLoop c :: k)) cs w) b k cs e a' w') ∧ Rel w0 I n s' a' w' η'
        | e => Q e a' w') s' a w η hs hr (fun e s' a' w' η' hk hr' => by
          cases e with
          | normal => exact ⟨s', η', hk, hr'⟩
          | exit id => exact hK (.exit id) s' a' w' η' hk hr'
          | ret => exact hK .ret s' a' w' η' hk hr')
      obtain ⟨e, a₁, w₁, hq, harr⟩ := hw b (.inLoop c :: k) cs
      cases e with
      | normal =>
        obtain ⟨s', η', hI₁, hr₁⟩ := hq
        obtain ⟨e₂, a₂, w₂, hq₂, harr₂⟩ := hI₁ a₁ w₁ η' hr₁
        exact ⟨e₂, a₂, w₂, hq₂, .of_steps (Steps.trans harr (.one step_inLoop)) harr₂⟩
      | exit id => exact ⟨_, a₁, w₁, hq, .pass (x := .inLoop c) rfl (fun _ _ => .inl (by simp)) harr⟩
      | goto l => exact ⟨_, a₁, w₁, hq, .pass (x := .inLoop c) rfl (fun _ _ => .inl (by simp)) harr⟩
      | ret => exact ⟨_, a₁, w₁, hq, .pass (x := .inLoop c) rfl (fun _ _ => .inl (by simp)) harr⟩
      | panic ch => exact ⟨_, a₁, w₁, hq, .pass (x := .inLoop c) rfl (fun _ _ => .inl (by simp)) harr⟩
      | outgrown => exact ⟨_, a₁, w₁, hq, .pass (x := .inLoop c) rfl (fun _ _ => .inl (by simp)) harr⟩)
    obtain ⟨e, a', w', hq, harr⟩ := key a w η hr
    exact ⟨e, a', w', hq, .of_steps (.one step_loop) harr⟩
  | rangeFunc f ps as b => exact fun K Q s a w η h => h.elim
  | scope b => exact fun K Q s a w η h => h.elim
  | goto l => exact fun K Q s a w η h => h.elim
  | refuse why => exact fun K Q s a w η h => h.elim

theorem own_lst (h : Rel w0 I n s a w η) {x : V} {u : Value} (hu : RV (cx w0 I s.st w η) u x) {b ver sz e : Nat} {l : List V} (hx : ownRow s.st x = some (b, ver, sz, e, l)) : RC w (fun _ => False) (Fresh w0 I.i) true u (.lst true sz l) := by
  obtain ⟨_, ⟨l0, hc0⟩, hblk, hrow⟩ := own_sound h hu hx
  obtain ⟨A, cp, us, rfl, h1, h2, h3, h4, h5⟩ := hrow.elems
  have h3' := h3.imp fun u x hr => hr.refresh (own' := fun _ => False) (fresh' := Fresh w0 I.i) rfl fun g _ hf => ⟨fun h => h, hf⟩
  refine .lst _ true sz l A cp us h1 h2 h3'.1 h3'.2 h4 ?_
  rcases h5 with h5 | ⟨g, o, rfl, h7⟩
  · exact .inl h5
  · exact .inr ⟨g, o, rfl, fun h => h, fun _ => h.old b g (by rw [hc0]; rfl) (hblk.symm.trans rfl), h7⟩

theorem resV_sound (h : Rel w0 I n s a w η) : ∀ (k : Nat) (x y : V) (u : Value), resV s.st k x = some y → RV (cx w0 I s.st w η) u x → RC w (fun _ => False) (Fresh w0 I.i) true u y
  | 0, x, y, u, hx, _ => by simp [resV] at hx
  | k + 1, x, y, u, hx, hu => by
    cases x <;> simp only [resV, reduceCtorEq] at hx
    case s v =>
      simp only [Option.some.injEq] at hx
      subst hx
      rw [hu.s_inv]; exact .s _ _
    case agg l =>
      obtain ⟨l', hl', rfl⟩ := Option.map_eq_some_iff.1 hx
      obtain ⟨us, rfl, hp⟩ := hu.agg_inv
      exact rc_agg _ _ (mapM_PW hl' hp fun u x y _ hr hf => resV_sound h k x y u hf hr)
    case tup l =>
      obtain ⟨l', hl', rfl⟩ := Option.map_eq_some_iff.1 hx
      obtain ⟨us, rfl, hp⟩ := hu.tup_inv
      have := mapM_PW (R' := RC w (fun _ => False) (Fresh w0 I.i) true) hl' hp fun u x y _ hr hf => resV_sound h k x y u hf hr
      exact .tup _ us l' this.1 this.2
    case lst fr sz l =>
      split at hx
      case isFalse => cases hx
      rename_i hfr
      simp only [Option.some.injEq] at hx
      subst hx
      subst hfr
      exact hu.lst_inv.refresh rfl fun g _ hf => ⟨fun h => h, hf⟩
    case sw b ver len =>
      obtain ⟨⟨sz, e, l⟩, hb, rfl⟩ := Option.map_eq_some_iff.1 hx
      exact own_lst h hu (b := b) (ver := ver) (sz := sz) (e := e) (l := l) (by simp [ownRow, hb])
    case sp b ver sz off len =>
      obtain ⟨⟨sz', e, l⟩, hb, hx2⟩ := Option.bind_eq_some_iff.1 hx
      simp only at hx2
      split at hx2
      case isFalse => cases hx2
      rename_i hc
      simp only [Option.some.injEq] at hx2
      subst hx2
      have := own_lst h hu (b := b) (ver := ver) (sz := sz') (e := e) (l := (l.drop off).take len) (by simp [ownRow, hb, hc])
      rw [hc.1] at this
      exact this

theorem resT_sound (h : Rel w0 I n s a w η) {x y : V} {u : Value} (hx : resT s.st x = some y) (hu : RV (cx w0 I s.st w η) u x) : ResR w0 I.i w u y ∧ ∀ t r out, y ≠ .io t r out := by
  unfold resT at hx
  split at hx
  · rename_i b ver len
    obtain ⟨⟨sz, e, l⟩, hb, rfl⟩ := Option.map_eq_some_iff.1 hx
    obtain ⟨hver, hcont, hl, us, ho, h2, h3, h4⟩ := look_row h hb
    have e1 := hu.sw_inv.2.2 _ hl
    subst e1
    have hlive : (s.st b).c.live = true := by rw [hcont]; rfl
    exact ⟨⟨⟨us, ho, h2, h3.imp fun u x hr => hr.mono fun g hg _ => ⟨rfl, fun hb' => hg ⟨b, hlive, hb'⟩⟩, h4⟩, fun g hg => h.old b g hlive hg⟩, fun _ _ _ h => (by cases h)⟩
  · rename_i b ver
    obtain ⟨cs, hb, h2⟩ := Option.bind_eq_some_iff.1 hx
    obtain ⟨⟨cs', bs⟩, hc, h3⟩ := Option.bind_eq_some_iff.1 h2
    simp only at h3
    split at h3
    case isFalse => cases h3
    rename_i hn
    simp only [Option.some.injEq] at h3
    subst h3
    exact ⟨(box_sound h hu hb hc hn (D := Fresh w0 I.i) fun q _ g hl hg => h.old q g hl hg).1, fun _ _ _ h => (by cases h)⟩
  · have := resV_sound h 4 x y u hx hu
    cases y <;> first | (exfalso; cases this; done) | exact ⟨this, fun _ _ _ h => (by cases h)⟩

theorem scalT_RC {x : V} {u : Value} {c : Cx} {own fresh : Nat → Prop} {k : Bool} (hx : x.scalT = true) (hu : RV c u x) : RC w own fresh k u x := by
  cases x <;> simp only [V.scalT, reduceCtorEq, Bool.false_eq_true] at hx
  case s v => rw [hu.s_inv]; exact .s _ _
  case agg l =>
    obtain ⟨us, rfl, hp⟩ := hu.agg_inv
    refine .agg _ us l hp.1 fun i u y hu hy => ?_
    have := List.all_eq_true.1 hx y (List.mem_of_getElem? hy)
    have hr := hp.2 i u y hu hy
    split at this
    · rw [hr.s_inv]; exact .s _ _
    · cases this
  case tup l =>
    obtain ⟨us, rfl, hp⟩ := hu.tup_inv
    refine .tup _ us l hp.1 fun i u y hu hy => ?_
    have := List.all_eq_true.1 hx y (List.mem_of_getElem? hy)
    have hr := hp.2 i u y hu hy
    split at this
    · rw [hr.s_inv]; exact .s _ _
    · cases this

end

theorem mapM_cons' {α β : Type} (f : α → Option β) (x : α) (l : List α) : (x :: l).mapM f = (f x).bind fun y => (l.mapM f).bind fun ys => some (y :: ys) := by
  simp [List.mapM_cons]

/-- the argument is handed over -/
def ownAt (xs : List V) (t : Nat) : Bool := match xs[t]? with
  | some x => x.isOwn
  | none => false
def resX (P : Program) (fn : Func) (xs : List V) (s : S) (r : V) : Prop := match r with
  | .io t r out => ownAt xs t = true ∧ ioOf P fn s t = some (.io t r out)
  | r => resOf P fn s = some r
def Fin (P : Program) (fn : Func) (xs : List V) (r : V) (e : Ex) (s : S) : Prop := (e = .normal ∨ e = .ret) ∧ resX P fn xs s r
theorem res_noio {P : Program} {fn : Func} {xs : List V} {s : S} {r : V} (h : resOf P fn s = some r) : resX P fn xs s r := by
  cases r <;> try exact h
  exfalso
  unfold resOf at h
  obtain ⟨vs, _, h2⟩ := Option.bind_eq_some_iff.1 h
  unfold resT at h2
  split at h2
  · obtain ⟨⟨_, _, _⟩, _, h3⟩ := Option.map_eq_some_iff.1 h2
    cases h3
  · obtain ⟨_, _, h3⟩ := Option.bind_eq_some_iff.1 h2
    obtain ⟨⟨_, _⟩, _, h4⟩ := Option.bind_eq_some_iff.1 h3
    simp only at h4
    split at h4 <;> simp at h4
  · cases hx : one vs <;> rw [hx] at h2 <;> simp only [resV, reduceCtorEq, Option.some.injEq] at h2
    case agg => obtain ⟨_, _, h⟩ := Option.map_eq_some_iff.1 h2; cases h
    case tup => obtain ⟨_, _, h⟩ := Option.map_eq_some_iff.1 h2; cases h
    case lst => split at h2 <;> simp at h2
    case sw => obtain ⟨⟨_, _, _⟩, _, h⟩ := Option.map_eq_some_iff.1 h2; cases h
    case sp =>
      obtain ⟨⟨_, _, _⟩, _, h⟩ := Option.bind_eq_some_iff.1 h2
      simp only at h
      split at h <;> simp at h
theorem fin_ret {P : Program} {fn : Func} {xs : List V} {r : V} {s : S} (h : resOf P fn s = some r) : Fin P fn xs r .ret s := ⟨.inr rfl, res_noio h⟩
theorem fin_normal {P : Program} {fn : Func} {xs : List V} {r : V} {s : S} (h : resOf P fn s = some r) : Fin P fn xs r .normal s := ⟨.inl rfl, res_noio h⟩
theorem fin_io {P : Program} {fn : Func} {xs : List V} {t : Nat} {r out : V} {e : Ex} {s : S} (he : e = .normal ∨ e = .ret) (ho : ownAt xs t = true) (h : ioOf P fn s t = some (.io t r out)) : Fin P fn xs (.io t r out) e s := ⟨he, ho, h⟩

theorem inC_get (t : Nat) : ∀ (cs : List V) (j i : Nat), (inC t j cs)[i]? = (cs[i]?).map fun c => match c with
    | .own _ _ l => .sw (nest t (j + i)) 1 l.length
    | c => c
  | [], j, i => by simp [inC]
  | c :: r, j, i => by
    cases i with
    | zero => cases c <;> simp [inC]
    | succ i =>
      have e : j + 1 + i = j + (i + 1) := by omega
      simp only [inC, List.getElem?_cons_succ]
      rw [inC_get t r (j + 1) i, e]
theorem inC_len (t : Nat) : ∀ (cs : List V) (j : Nat), (inC t j cs).length = cs.length
  | [], j => by simp [inC]
  | c :: r, j => by simp [inC, inC_len t r (j + 1)]

/-- what the reckoning shows of every answer holds of the call -/
theorem impl_of {P : Program} {C : Orc} {E : EqT} (hm : P.follows .mixedOrders = true) (hC : ∀ g sp, C g = some sp → Impl P g sp) (hE : EqOk P E) {f : Nat} {fn : Func} {c : Code} {sp : Spec} (hf : P.funcs[f]? = some fn) (hb : fn.body = some c)
    (hname : (fn.name == "runtime.NumGoroutine") = false)
    (h : ∀ xs r, sp.fn xs = some r → xs.length ≤ fn.ntmps ∧ awp P C E fn.ntmps c (Fin P fn xs r) (init xs)) : Impl P f sp := by
  refine ⟨⟨fn, hf, hname, by rw [hb]; rfl⟩, fun xs r hr vs w J hargs => ?_⟩
  obtain ⟨hlen, hawp⟩ := h xs r hr
  have hvl : vs.toList.length = xs.length := hargs.pw.1
  have hvs : vs.size = xs.length := by simpa using hvl
  refine calls_of_wp hf hb ?_
  have hgetv : ∀ (t : Nat) u, vs.toList[t]? = some u → vs[t]? = some u := fun t u hu => by simpa using hu
  -- the values of the blocks
  let η : Nat → Value := fun q => if q < 1000 then vs.getD q undef else (match vs[q / 1000 - 1]? with
    | some (.pointer (some a)) => (w.cell? ⟨a.block, a.off + q % 1000, a.spot⟩).getD undef
    | _ => undef)
  have hη1 : ∀ t u, t < 1000 → vs[t]? = some u → η t = u := fun t u ht hu => by
    simp only [η, if_pos ht]
    rw [Array.getD_eq_getD_getElem?, hu]; rfl
  have hdiv : ∀ t j, j < 1000 → nest t j / 1000 - 1 = t ∧ nest t j % 1000 = j ∧ ¬ nest t j < 1000 := fun t j hj => by unfold nest; omega
  have hη2 : ∀ t j g o cs (cur : Array Value) e us u, j < 1000 → vs[t]? = some (.pointer (some ⟨g, o, none⟩)) → w.heap[g]? = some (.cells cur e (0, 0)) → us = (cur.toList.drop o).take cs → us[j]? = some u → η (nest t j) = u := fun t j g o cs cur e us u hj hu hg hus huj => by
    obtain ⟨h1, h2, h3⟩ := hdiv t j hj
    simp only [η, if_neg h3, h1, h2, hu]
    subst hus
    rw [List.getElem?_take] at huj
    split at huj
    · rw [List.getElem?_drop] at huj
      have : cur[o + j]? = some u := by simpa using huj
      simp [World.cell?, hg, this]
    · cases huj
  -- what is live
  have hst : ∀ q, ((init xs).st q).c.live = true →
      (q < 1000 ∧ ∃ sz e l, xs[q]? = some (.own sz e l) ∧ (init xs).st q = ⟨1, .row sz e l⟩) ∨
      (q < 1000 ∧ ∃ cs, xs[q]? = some (.obx cs) ∧ (init xs).st q = ⟨1, .box (inC q 0 cs)⟩) ∨
      (∃ t j cs sz e l, q = nest t j ∧ j < 1000 ∧ xs[t]? = some (.obx cs) ∧ cs[j]? = some (.own sz e l) ∧ (init xs).st q = ⟨1, .row sz e l⟩) := fun q hq => by
    simp only [init] at hq ⊢
    split at hq
    · rename_i h1
      simp only [h1, if_true]
      split at hq
      · rename_i sz e l hx
        exact .inl ⟨trivial, sz, e, l, hx, rfl⟩
      · rename_i cs hx
        exact .inr (.inl ⟨trivial, cs, hx, rfl⟩)
      · cases hq
    · rename_i h1
      simp only [h1, if_false]
      split at hq
      · rename_i cs hx
        split at hq
        · rename_i sz e l hc
          refine .inr (.inr ⟨q / 1000 - 1, q % 1000, cs, sz, e, l, by unfold nest; omega, by omega, hx, hc, rfl⟩)
        · cases hq
      · cases hq
  -- one of the arguments alone is the function's own
  have hblkq : ∀ q g, ((init xs).st q).c.live = true → blkOf (η q) = some g → J g := fun q g hq hg => by
    rcases hst q hq with ⟨h1, sz, e, l, hx, _⟩ | ⟨h1, cs, hx, _⟩ | ⟨t, j, cs, sz, e, l, rfl, hj, hx, hc, _⟩
    · obtain ⟨u, hu, hr⟩ := hargs.pw.get hx
      rw [hη1 q u h1 (hgetv q u hu)] at hg
      exact hr.2 g hg
    · obtain ⟨u, hu, hr⟩ := hargs.pw.get hx
      rw [hη1 q u h1 (hgetv q u hu)] at hg
      obtain ⟨g0, o, cur, e, us, rfl, hg0, hJ, _⟩ := hr
      simp [blkOf] at hg
      subst hg
      exact hJ
    · obtain ⟨u, hu, hr⟩ := hargs.pw.get hx
      obtain ⟨g0, o, cur, e0, us, rfl, hg0, hJ, hus, hpw, hnest, _⟩ := hr
      obtain ⟨u', hu', _⟩ := hpw.get hc
      rw [hη2 t j g0 o cs.length cur e0 us u' hj (hgetv t _ hu) hg0 hus hu'] at hg
      exact (hnest j u' sz e l g hu' hc hg).1
  let I : Ow := ⟨J, fun t => if t < 1000 then (match xs[t]? with
    | some (.own _ _ _) => vs[t]?
    | some (.obx _) => vs[t]?
    | _ => none) else none⟩
  have hrel : Rel w I fn.ntmps (init xs) { tmps := vs ++ Array.replicate (fn.ntmps - vs.size) undef, defers := [] } w η := by
    have hown : ∀ g, (cx w I (init xs).st w η).own g → J g := fun g ⟨b, hb, hg⟩ => hblkq b g hb hg
    refine ⟨by simp; omega, rfl, fun t => ?_, fun b hb => ?_, fun b b' g hb hb' hg hg' => ?_, fun b g hb hg => .inr (hblkq b g hb hg), ⟨rfl, rfl, rfl, Nat.le_refl _, fun _ _ _ => rfl⟩, fun b v hbv => ?_⟩
    · have hget : ∀ u, vs[t]? = some u → (vs ++ Array.replicate (fn.ntmps - vs.size) undef).getD t undef = u := fun u hu => by
        have hlt := (Array.getElem?_eq_some_iff.1 hu).1
        rw [Array.getD_eq_getD_getElem?, Array.getElem?_append_left hlt, hu]; rfl
      cases hx : xs[t]? with
      | none =>
        have hge : vs.size ≤ t := by
          rw [hvs]
          rcases Nat.lt_or_ge t xs.length with h' | h'
          · rw [List.getElem?_eq_getElem h'] at hx; cases hx
          · exact h'
        have : (vs ++ Array.replicate (fn.ntmps - vs.size) undef).getD t undef = undef := by
          rw [Array.getD_eq_getD_getElem?, Array.getElem?_append_right hge, Array.getElem?_replicate]
          split <;> rfl
        simp only [init, hx]
        rw [this]; exact .s _
      | some x =>
        obtain ⟨u, hu, hr⟩ := hargs.pw.get hx
        have hu' := hgetv t u hu
        rw [hget u hu']
        have hlook : ∀ ver v0, t < 1000 → (cx w I (init xs).st w η).look t ver = some v0 → v0 = u := fun ver v0 ht hv0 => by
          simp only [cx] at hv0
          split at hv0
          · simp only [Option.some.injEq] at hv0
            rw [← hv0]; exact hη1 t u ht hu'
          · cases hv0
        cases hxo : x.isOwn with
        | false =>
          have hrc : RC w J (Fresh w J) false u x := by
            cases x <;> first | exact hr | (simp [V.isOwn] at hxo)
          have := hrc.mono (w' := w) (own' := (cx w I (init xs).st w η).own) fun g hg _ => ⟨rfl, fun h => hg (hown g h)⟩
          have he : (init xs).env t = x.unfr := by
            simp only [init, hx]
            cases x <;> first | rfl | (simp [V.isOwn] at hxo)
          rw [he]
          exact RC.rvu (c := cx w I (init xs).st w η) this
        | true =>
          cases x <;> simp only [V.isOwn, reduceCtorEq, Bool.false_eq_true] at hxo
          case own sz e l =>
            simp only [init, hx]
            obtain ⟨⟨us, ho, _⟩, _⟩ := hr
            refine .sw t 1 _ u ?_ ?_ fun v0 hv0 => ?_
            · rcases ho.val with ⟨h', h0⟩ | ⟨g', o', cap', h', _⟩
              · exact ⟨none, 0, by rw [h', h0]⟩
              · exact ⟨_, _, h'⟩
            · by_cases ht : t < 1000
              · simp [cx, init, hx, ht]
              · exact absurd (hargs.small t _ hx rfl).1 ht
            · by_cases ht : t < 1000
              · exact (hlook 1 v0 ht hv0).symm
              · exact absurd (hargs.small t _ hx rfl).1 ht
          case obx cs =>
            simp only [init, hx]
            obtain ⟨g0, o, cur, e, us, rfl, hg0, hJ, _⟩ := hr
            refine .ptr t 1 0 _ ⟨_, rfl⟩ ?_ fun v0 hv0 => ?_
            · by_cases ht : t < 1000
              · simp [cx, init, hx, ht]
              · exact absurd (hargs.small t _ hx rfl).1 ht
            · by_cases ht : t < 1000
              · exact ⟨g0, o, hlook 1 v0 ht hv0, rfl⟩
              · exact absurd (hargs.small t _ hx rfl).1 ht
    · rcases hst b hb with ⟨h1, sz, e, l, hx, hb'⟩ | ⟨h1, cs, hx, hb'⟩ | ⟨t, j, cs, sz, e, l, rfl, hj, hx, hc, hb'⟩
      · obtain ⟨u, hu, hr⟩ := hargs.pw.get hx
        rw [hb', hη1 b u h1 (hgetv b u hu)]
        obtain ⟨⟨us, ho, h2, h3, h4⟩, _⟩ := hr
        exact ⟨us, ho, h2, h3.imp fun u x hx => hx.mono fun g hg _ => ⟨rfl, fun h => hg (hown g h)⟩, h4⟩
      · obtain ⟨u, hu, hr⟩ := hargs.pw.get hx
        rw [hb', hη1 b u h1 (hgetv b u hu)]
        obtain ⟨g0, o, cur, e, us, rfl, hg0, hJ, hus, hpw, hnest, _⟩ := hr
        refine ⟨g0, o, cur, e, rfl, hg0, ?_⟩
        rw [inC_len, ← hus]
        refine ⟨by rw [inC_len]; exact hpw.1, fun i u' x hu' hx' => ?_⟩
        rw [inC_get] at hx'
        obtain ⟨c, hc, rfl⟩ := Option.map_eq_some_iff.1 hx'
        have hr := hpw.2 i u' c hu' hc
        cases c <;> simp only [CellR] at hr
        case s v => subst hr; exact .s _
        case own sz e' l =>
          obtain ⟨hsc, us1, ho, _⟩ := hr
          simp only [Nat.zero_add]
          have hi : i < 1000 := by
            have := (hargs.small b _ hx rfl).2 cs rfl
            have := (List.getElem?_eq_some_iff.1 hc).1
            omega
          obtain ⟨d1, d2, d3⟩ := hdiv b i hi
          have hsti : (init xs).st (nest b i) = ⟨1, .row sz e' l⟩ := by
            simp only [init, d3, if_false, d1, d2, hx, hc]
          refine .sw _ _ _ _ ?_ ?_ fun v0 hv0 => ?_
          · rcases ho.val with ⟨h', h0⟩ | ⟨g', o', cap', h', _⟩
            · exact ⟨none, 0, by rw [h', h0]⟩
            · exact ⟨_, _, h'⟩
          · simp only [cx]
            rw [hsti]
            exact Nat.le_refl _
          · simp only [cx] at hv0
            rw [hsti] at hv0
            simp [Cont.live] at hv0
            rw [hη2 b i g0 o cs.length cur e us u' hi (hgetv b _ hu) hg0 hus hu'] at hv0
            exact hv0
      · obtain ⟨u, hu, hr⟩ := hargs.pw.get hx
        obtain ⟨g0, o, cur, e0, us, rfl, hg0, hJ, hus, hpw, hnest, _⟩ := hr
        obtain ⟨u', hu', hr'⟩ := hpw.get hc
        rw [hb', hη2 t j g0 o cs.length cur e0 us u' hj (hgetv t _ hu) hg0 hus hu']
        obtain ⟨hsc, hrow⟩ := hr'
        exact hrow.scal hsc fun _ _ => rfl
    · -- blocks lie apart
      have own1 : ∀ (i j : Nat) (x y : V), xs[i]? = some x → xs[j]? = some y → x.isOwn = true → y.isOwn = true → i = j := hargs.one
      rcases hst b hb with ⟨h1, sz, e, l, hx, _⟩ | ⟨h1, cs, hx, _⟩ | ⟨t, j, cs, sz, e, l, rfl, hj, hx, hc, _⟩
      · rcases hst b' hb' with ⟨h1', sz', e', l', hx', _⟩ | ⟨h1', cs', hx', _⟩ | ⟨t', j', cs', sz', e', l', rfl, hj', hx', hc', _⟩
        · exact own1 b b' _ _ hx hx' rfl rfl
        · exact own1 b b' _ _ hx hx' rfl rfl
        · have := own1 b t' _ _ hx hx' rfl rfl
          subst this
          rw [hx] at hx'; cases hx'
      · rcases hst b' hb' with ⟨h1', sz', e', l', hx', _⟩ | ⟨h1', cs', hx', _⟩ | ⟨t', j', cs', sz', e', l', rfl, hj', hx', hc', _⟩
        · exact own1 b b' _ _ hx hx' rfl rfl
        · exact own1 b b' _ _ hx hx' rfl rfl
        · have := own1 b t' _ _ hx hx' rfl rfl
          subst this
          rw [hx] at hx'
          cases hx'
          obtain ⟨u, hu, hr⟩ := hargs.pw.get hx
          rw [hη1 b u h1 (hgetv b u hu)] at hg
          obtain ⟨g0, o, cur, e0, us, rfl, hg0, hJ, hus, hpw, hnest, _⟩ := hr
          obtain ⟨u', hu', _⟩ := hpw.get hc'
          rw [hη2 b j' g0 o cs.length cur e0 us u' hj' (hgetv b _ hu) hg0 hus hu'] at hg'
          simp [blkOf] at hg
          exact absurd hg.symm (hnest j' u' sz' e' l' g hu' hc' hg').2
      · obtain ⟨u, hu, hr⟩ := hargs.pw.get hx
        obtain ⟨g0, o, cur, e0, us, rfl, hg0, hJ, hus, hpw, hnest, hsp⟩ := hr
        obtain ⟨u', hu', _⟩ := hpw.get hc
        rw [hη2 t j g0 o cs.length cur e0 us u' hj (hgetv t _ hu) hg0 hus hu'] at hg
        rcases hst b' hb' with ⟨h1', sz', e', l', hx', _⟩ | ⟨h1', cs', hx', _⟩ | ⟨t', j', cs', sz', e', l', rfl, hj', hx', hc', _⟩
        · have := own1 t b' _ _ hx hx' rfl rfl
          subst this
          rw [hx] at hx'; cases hx'
        · have := own1 t b' _ _ hx hx' rfl rfl
          subst this
          rw [hη1 t _ h1' (hgetv t _ hu)] at hg'
          simp [blkOf] at hg'
          exact absurd hg'.symm (hnest j u' sz e l g hu' hc hg).2
        · have := own1 t t' _ _ hx hx' rfl rfl
          subst this
          rw [hx] at hx'
          cases hx'
          obtain ⟨u2, hu2, _⟩ := hpw.get hc'
          rw [hη2 t j' g0 o cs.length cur e0 us u2 hj' (hgetv t _ hu) hg0 hus hu2] at hg'
          rw [hsp j j' u' u2 sz e l sz' e' l' g hu' hu2 hc hc' hg hg']
    · simp only [I] at hbv
      split at hbv
      case isFalse => cases hbv
      rename_i ht
      split at hbv
      · rename_i sz e l hx
        exact ⟨by simp [init, hx, ht], fun _ _ => hη1 b v ht hbv⟩
      · rename_i cs hx
        exact ⟨by simp [init, hx, ht], fun _ _ => hη1 b v ht hbv⟩
      · cases hbv
  refine awp_sound hm hC hE c _ _ (init xs) _ w _ hawp hrel fun e s' a' w' η' hk hr' => ?_
  obtain ⟨he, hres⟩ := hk
  have hfin : a'.defers = [] ∧ ∃ v, (results fn a'.tmps).run P w' = .ok v w' ∧ (∃ v', Ending.returned v = .returned v' ∧ Fr w J w' ∧ PostR w J w' vs v' r) := by
    refine ⟨hr'.defers, ?_⟩
    have key : ∀ (rs : List ResultVar) (ys : List V), (rs.mapM (m := Option) fun r => match r with
        | .tmp t => if t < fn.ntmps then some (s'.env t) else none
        | .cell a t => if a < fn.ntmps then loadV P s'.st t (s'.env a) else none) = some ys →
        ∃ us, (rs.mapM (m := Sem) fun
          | .tmp t => pure (a'.tmps.getD t undef)
          | .cell a t => do loadVar t (← asAddr (a'.tmps.getD a undef))).run P w' = .ok us w' ∧ PW (RV (cx w I s'.st w' η')) us ys := by
      intro rs
      induction rs with
      | nil => intro ys h; simp at h; subst h; exact ⟨[], by simp, PW.nil⟩
      | cons q rs ih =>
        intro ys h
        rw [mapM_cons'] at h
        obtain ⟨y, hy, h2⟩ := Option.bind_eq_some_iff.1 h
        obtain ⟨ys', hys', h3⟩ := Option.bind_eq_some_iff.1 h2
        simp only [Option.some.injEq] at h3
        subst h3
        obtain ⟨us, hus, hp⟩ := ih ys' hys'
        cases q with
        | tmp t =>
          simp only at hy
          split at hy
          case isFalse => cases hy
          simp only [Option.some.injEq] at hy
          subst hy
          exact ⟨_ :: us, by simp only [List.mapM_cons, Sem.run_bind, Sem.run_pure, Result.andThen_ok, hus], PW.cons (hr'.env t) hp⟩
        | cell t ty =>
          simp only at hy
          split at hy
          case isFalse => cases hy
          obtain ⟨u, hu, hv⟩ := load_sound hr' hy (hr'.env t)
          have hu2 : (do loadVar ty (← asAddr (a'.tmps.getD t undef)) : Sem Value).run P w' = .ok u w' := by
            unfold Instr.loadAt at hu
            generalize a'.tmps.getD t undef = q at hu ⊢
            cases q with
            | pointer p => cases p with
              | none => simp [Instr.sureAddr, stuck] at hu
              | some p => simpa [Instr.sureAddr, asAddr] using hu
            | _ => simp [Instr.sureAddr, stuck] at hu
          refine ⟨u :: us, ?_, PW.cons hv hp⟩
          rw [List.mapM_cons]
          simp only [Sem.run_bind] at hu2 ⊢
          rw [hu2]
          simp only [Result.andThen_ok, Sem.run_bind, hus, Sem.run_pure]
    have key2 : ∀ vs', resL P fn s' = some vs' → ∃ u, (results fn a'.tmps).run P w' = .ok u w' ∧ RV (cx w I s'.st w' η') u (one vs') := fun vs' hvs' => by
      obtain ⟨us, hus, hp⟩ := key fn.results.toList vs' hvs'
      have hrun : (fn.results.mapM (m := Sem) fun
            | .tmp t => pure (a'.tmps.getD t undef)
            | .cell a t => do loadVar t (← asAddr (a'.tmps.getD a undef))).run P w' = .ok us.toArray w' := by
        rw [Array.mapM_eq_mapM_toList]
        simp only [Sem.run_map, hus, Result.andThen_ok]
      have hres3 : (results fn a'.tmps).run P w' = .ok (if h : us.toArray.size = 1 then us.toArray[0] else .tuple us.toArray) w' := by
        unfold results
        simp only [Sem.run_bind]
        exact congrArg (fun r : Result (Array Value) => r.andThen fun (q : Array Value) w'' => Sem.run P (pure (if h : q.size = 1 then q[0] else Value.tuple q)) w'') hrun
      rw [hres3]
      by_cases hl : vs'.length = 1
      · obtain ⟨x, rfl⟩ : ∃ x, vs' = [x] := by
          match vs', hl with
          | [x], _ => exact ⟨x, rfl⟩
        obtain ⟨u, us2, rfl, hu, hnil⟩ := hp.uncons
        have := hnil.nil_r
        subst this
        exact ⟨u, rfl, hu⟩
      · have h1 : ¬ us.toArray.size = 1 := by
          intro h1
          exact hl (by rw [← hp.1]; simpa using h1)
        have e1 : one vs' = .tup vs' := by
          match vs', hl with
          | [], _ => rfl
          | [x], h => exact absurd rfl h
          | _ :: _ :: _, _ => rfl
        rw [e1]
        exact ⟨.tuple us.toArray, by rw [dif_neg h1], .tup us vs' hp.1 hp.2⟩
    have plain : resOf P fn s' = some r → ∃ v, (results fn a'.tmps).run P w' = .ok v w' ∧ (∃ v', Ending.returned v = .returned v' ∧ Fr w J w' ∧ PostR w J w' vs v' r) := fun hres => by
      unfold resOf at hres
      obtain ⟨vs', hvs', hres2⟩ := Option.bind_eq_some_iff.1 hres
      obtain ⟨u, hu, hrv⟩ := key2 vs' hvs'
      obtain ⟨h1, h2⟩ := resT_sound hr' hres2 hrv
      refine ⟨u, hu, u, rfl, hr'.fr, ?_⟩
      cases r <;> first | exact h1 | exact absurd rfl (h2 _ _ _)
    unfold resX at hres
    split at hres
    · rename_i t r0 out
      obtain ⟨hownat, hres⟩ := hres
      obtain ⟨x, hx, hxo⟩ : ∃ x, xs[t]? = some x ∧ x.isOwn = true := by
        unfold ownAt at hownat
        split at hownat
        · exact ⟨_, by assumption, hownat⟩
        · cases hownat
      obtain ⟨ut, hut, _⟩ := hargs.pw.get hx
      have hut' := hgetv t ut hut
      have ht := (hargs.small t x hx hxo).1
      have hpin : I.pin t = some ut := by
        simp only [I, if_pos ht, hx]
        cases x <;> simp only [V.isOwn, reduceCtorEq, Bool.false_eq_true] at hxo <;> exact hut'
      have hpin2 := (hr'.pin t ut hpin).2
      unfold ioOf at hres
      obtain ⟨vs', hvs', h2⟩ := Option.bind_eq_some_iff.1 hres
      obtain ⟨u, hu, hrv⟩ := key2 vs' hvs'
      split at h2
      case isFalse => cases h2
      rename_i hsc
      split at h2
      case isFalse => cases h2
      rename_i hver
      split at h2
      · rename_i cs hcont
        obtain ⟨⟨cs', bs⟩, hc, h3⟩ := Option.bind_eq_some_iff.1 h2
        simp only at h3
        split at h3
        case isFalse => cases h3
        rename_i hn
        simp only [Option.some.injEq, V.io.injEq, true_and] at h3
        obtain ⟨rfl, rfl⟩ := h3
        have hlive : (s'.st t).c.live = true := by rw [hcont]; rfl
        have hB := hr'.blk t hlive
        rw [hcont] at hB
        obtain ⟨g, o, cur, e', hη, hg, hp⟩ := hB
        have hrvt : RV (cx w I s'.st w' η') (η' t) (.ptr t 1 0) := .ptr t 1 0 _ ⟨_, hη⟩ (by simp [cx, hver]) fun v0 hv0 => by
          simp only [cx, hver, hlive, and_self, if_true, Option.some.injEq] at hv0
          subst hv0
          exact ⟨g, o, hη, hη⟩
        have hbox := (box_sound hr' hrvt (by unfold boxAt; rw [if_pos hver, hcont]) hc hn (D := Fresh w J) fun q _ g hl hg => hr'.old q g hl hg).1
        rw [hpin2 hver hlive] at hbox
        exact ⟨u, hu, u, rfl, hr'.fr, hsc, scalT_RC hsc hrv, ut, hut', hbox⟩
      · rename_i sz e l hcont
        split at h2
        case isFalse => cases h2
        rename_i hl
        simp only [Option.some.injEq, V.io.injEq, true_and] at h2
        obtain ⟨rfl, rfl⟩ := h2
        have hlive : (s'.st t).c.live = true := by rw [hcont]; rfl
        have hB := hr'.blk t hlive
        rw [hcont] at hB
        have hrow : RowR w' _ _ (η' t) sz e l := hB
        have hold := fun g hg => hr'.old t g hlive hg
        rw [hpin2 hver hlive] at hrow hold
        exact ⟨u, hu, u, rfl, hr'.fr, hsc, scalT_RC hsc hrv, ut, hut', ⟨hl, hrow.scal hl fun _ _ => rfl⟩, hold⟩
      · cases h2
    · exact plain hres
  rcases he with rfl | rfl
  · exact hfin
  · exact hfin

end Go.Proofs.YtkfmecmmbnehjaaGreat
namespace Go.Proofs.YtkfmecmmbnehjaaGreat
set_option linter.unusedSimpArgs false
set_option linter.unusedVariables false

def flatFs (g : TypeId → Option Nat) : Nat → List Field → Option Nat
  | k, [] => some k
  | k, f :: fs => if f.name ≠ "_" ∧ f.offset = k then (g f.type).bind fun m => flatFs g (k + m) fs else none
/-- how many numbers a type is -/
def flatT (P : Program) : Nat → TypeId → Option Nat
  | 0, _ => none
  | d + 1, t => (match P.underlying t with
    | some (.int _) => some 1
    | some (.struct fs) => if P.stoodInHeld t then none else flatFs (flatT P d) 0 fs.toList
    | some (.array n e) => (flatT P d e).map fun m => n * m
    | _ => none).bind fun m => if szOf P t = some m then some m else none
/-- the value of so many cells -/
def valOf (P : Program) (t : TypeId) (us : List Value) : Value := if isAggB P t = some true then .agg us.toArray else us.headD undef

theorem eqInts_len : ∀ {l m : List V} {r : Bool}, eqInts l m = some r → l.length = m.length := by
  intro l
  induction l with
  | nil => intro m r h; cases m with
    | nil => rfl
    | cons y m => simp [eqInts] at h
  | cons x l ih =>
    intro m r h
    cases m with
    | nil => cases x with
      | s v => cases v <;> simp [eqInts] at h
      | _ => simp [eqInts] at h
    | cons y m =>
      unfold eqInts at h
      split at h
      · rename_i h1 h2; simp at h1
      · rename_i h1 h2
        simp only [List.cons.injEq] at h1 h2
        obtain ⟨rfl, rfl⟩ := h1
        obtain ⟨rfl, rfl⟩ := h2
        split at h
        · obtain ⟨r', hr, _⟩ := Option.map_eq_some_iff.1 h
          simp [ih hr]
        · cases h
      · cases h
theorem eqInts_cons {x y : V} {l m : List V} {r : Bool} (h : eqInts (x :: l) (y :: m) = some r) : ∃ r1 r2, eqInts [x] [y] = some r1 ∧ eqInts l m = some r2 ∧ r = (r1 && r2) := by
  unfold eqInts at h
  split at h
  · rename_i h1 h2; simp at h1
  · rename_i k a x' k' b y' h1 h2
    simp only [List.cons.injEq] at h1 h2
    obtain ⟨rfl, rfl⟩ := h1
    obtain ⟨rfl, rfl⟩ := h2
    split at h
    · rename_i hk
      obtain ⟨r', hr, rfl⟩ := Option.map_eq_some_iff.1 h
      exact ⟨a == b, r', by simp [eqInts, hk], hr, rfl⟩
    · cases h
  · cases h
theorem eqInts_one {x y : V} {l m : List V} {r1 r2 : Bool} (h1 : eqInts [x] [y] = some r1) (h2 : eqInts l m = some r2) : eqInts (x :: l) (y :: m) = some (r1 && r2) := by
  unfold eqInts at h1
  split at h1
  · rename_i h3 h4; simp at h3
  · rename_i k a x' k' b y' h3 h4
    simp only [List.cons.injEq] at h3 h4
    obtain ⟨rfl, rfl⟩ := h3
    obtain ⟨rfl, rfl⟩ := h4
    split at h1
    · rename_i hk
      simp [eqInts] at h1
      subst h1
      simp [eqInts, hk, h2]
    · cases h1
  · cases h1
theorem eqInts_app : ∀ {l1 m1 l2 m2 : List V} {r : Bool}, l1.length = m1.length → eqInts (l1 ++ l2) (m1 ++ m2) = some r → ∃ r1 r2, eqInts l1 m1 = some r1 ∧ eqInts l2 m2 = some r2 ∧ r = (r1 && r2)
  | [], [], l2, m2, r, _, h => ⟨true, r, rfl, h, by simp⟩
  | [], y :: m1, l2, m2, r, hl, h => by simp at hl
  | x :: l1, [], l2, m2, r, hl, h => by simp at hl
  | x :: l1, y :: m1, l2, m2, r, hl, h => by
    obtain ⟨ra, rb, h1, h2, rfl⟩ := eqInts_cons (l := l1 ++ l2) (m := m1 ++ m2) h
    obtain ⟨rc, rd, h3, h4, rfl⟩ := eqInts_app (by simpa using hl) h2
    exact ⟨ra && rc, rd, eqInts_one h1 h3, h4, by simp [Bool.and_assoc]⟩

section
variable {P : Program}
theorem part_val {t : TypeId} {m k : Nat} {us : List Value} {w : World} (hs : szOf P t = some m) (hk : k + m ≤ us.length) (ha : isAggB P t = some true ∨ (isAggB P t = some false ∧ m = 1)) : (part t us.toArray k).run P w = .ok (valOf P t ((us.drop k).take m)) w := by
  rcases ha with ha | ⟨ha, rfl⟩
  · simp only [part, Sem.run_bind, run_isAgg' ha, Result.andThen_ok, if_true, run_sizeOf' hs, Sem.run_pure, valOf, ha]
    simp
  · have hlt : k < us.length := by omega
    have e1 : us.drop k = us[k] :: us.drop (k + 1) := List.drop_eq_getElem_cons hlt
    have e2 : us.toArray[k]? = some us[k] := by simp [hlt]
    simp only [part, Sem.run_bind, run_isAgg' ha, Result.andThen_ok, Bool.false_eq_true, if_false, valOf, ha]
    rw [e2]
    have e3 : List.take 1 (us.drop k) = [us[k]] := by rw [e1]; rfl
    simp [e3]

def aggD : TypeDesc → Bool
  | .struct _ => true
  | .array _ _ => true
  | _ => false
theorem aggB_of {t : TypeId} {d : TypeDesc} (h : P.underlying t = some d) : isAggB P t = some (aggD d) := by
  unfold isAggB
  rw [h]
  cases d <;> rfl

theorem flatT_inv {d : Nat} {t : TypeId} {m : Nat} (h : flatT P d t = some m) : szOf P t = some m ∧ (isAggB P t = some true ∨ (isAggB P t = some false ∧ m = 1)) := by
  cases d with
  | zero => simp [flatT] at h
  | succ d =>
    simp only [flatT] at h
    obtain ⟨m', h1, h2⟩ := Option.bind_eq_some_iff.1 h
    split at h2
    case isFalse => cases h2
    rename_i hs
    simp only [Option.some.injEq] at h2
    subst h2
    refine ⟨hs, ?_⟩
    split at h1
    · rename_i k hu
      simp only [Option.some.injEq] at h1
      exact .inr ⟨by rw [aggB_of hu]; rfl, h1.symm⟩
    · rename_i fs hu
      exact .inl (by rw [aggB_of hu]; rfl)
    · rename_i n e hu
      exact .inl (by rw [aggB_of hu]; rfl)
    · cases h1

theorem split_at (us : List Value) (k m : Nat) (hk : k + m ≤ us.length) : (us.drop k).map V.s = ((us.drop k).take m).map V.s ++ (us.drop (k + m)).map V.s := by
  rw [← List.map_append]
  congr 1
  rw [← List.drop_drop, List.take_append_drop]

theorem eqFields_flat {D : Nat} {g : TypeId → Option Nat} (hg : ∀ t m, g t = some m → szOf P t = some m ∧ (isAggB P t = some true ∨ (isAggB P t = some false ∧ m = 1)) ∧
      ∀ (us vs : List Value) (r : Bool) (w : World), us.length = m → vs.length = m → eqInts (us.map .s) (vs.map .s) = some r → (Op.equalIn D t (valOf P t us) (valOf P t vs)).run P w = .ok r w) (us vs : List Value) :
    ∀ (fs : List Field) (k : Nat) (r : Bool) (w : World), flatFs g k fs = some us.length → vs.length = us.length → eqInts ((us.drop k).map .s) ((vs.drop k).map .s) = some r → (Op.eqFields D us.toArray vs.toArray fs).run P w = .ok r w
  | [], k, r, w, hf, hl, he => by
    simp only [flatFs, Option.some.injEq] at hf
    subst hf
    rw [List.drop_length] at he
    rw [← hl, List.drop_length] at he
    simp [eqInts] at he
    subst he
    simp [Op.eqFields]
  | f :: fs, k, r, w, hf, hl, he => by
    simp only [flatFs] at hf
    split at hf
    case isFalse => cases hf
    rename_i hn
    obtain ⟨hn, hoff⟩ := hn
    obtain ⟨m, hm, hf2⟩ := Option.bind_eq_some_iff.1 hf
    obtain ⟨hsz, hag, heq⟩ := hg f.type m hm
    have hge : ∀ (fs : List Field) (k n : Nat), flatFs g k fs = some n → k ≤ n := by
      intro fs
      induction fs with
      | nil => intro k n h; simp [flatFs] at h; omega
      | cons f fs ih =>
        intro k n h
        simp only [flatFs] at h
        split at h
        case isFalse => cases h
        obtain ⟨m', _, h2⟩ := Option.bind_eq_some_iff.1 h
        have := ih _ _ h2
        omega
    have hkm : k + m ≤ us.length := hge fs (k + m) _ hf2
    rw [split_at us k m hkm, split_at vs k m (by omega)] at he
    obtain ⟨r1, r2, h1, h2, rfl⟩ := eqInts_app (by simp; omega) he
    have p1 := part_val (w := w) hsz hkm hag
    have p2 := part_val (us := vs) (k := k) (w := w) hsz (by omega) hag
    have q := heq ((us.drop k).take m) ((vs.drop k).take m) r1 w (by simp; omega) (by simp; omega) h1
    have ih := eqFields_flat hg us vs fs (k + m) r2 w hf2 hl h2
    simp only [Op.eqFields, if_pos hn, Sem.run_bind, hoff, p1, p2, Result.andThen_ok, q, Sem.run_ite]
    cases r1 with
    | true => simpa using ih
    | false => simp

theorem eqItems_flat {D : Nat} {e : TypeId} {m : Nat} (hsz : szOf P e = some m) (hag : isAggB P e = some true ∨ (isAggB P e = some false ∧ m = 1))
    (heq : ∀ (us vs : List Value) (r : Bool) (w : World), us.length = m → vs.length = m → eqInts (us.map .s) (vs.map .s) = some r → (Op.equalIn D e (valOf P e us) (valOf P e vs)).run P w = .ok r w) (us vs : List Value) :
    ∀ (c k : Nat) (r : Bool) (w : World), us.length = (k + c) * m → vs.length = us.length → eqInts ((us.drop (k * m)).map .s) ((vs.drop (k * m)).map .s) = some r → (Op.eqItems D e m us.toArray vs.toArray (List.range' k c)).run P w = .ok r w
  | 0, k, r, w, hl, hl2, he => by
    rw [List.drop_eq_nil_of_le (by simp at hl; omega), List.drop_eq_nil_of_le (by simp at hl; omega)] at he
    simp [eqInts] at he
    subst he
    simp [Op.eqItems]
  | c + 1, k, r, w, hl, hl2, he => by
    have hk1 : (k + 1) * m = k * m + m := by rw [Nat.add_mul]; omega
    have hkm : k * m + m ≤ us.length := by
      rw [hl, ← hk1]
      exact Nat.mul_le_mul_right m (by omega)
    rw [split_at us (k * m) m hkm, split_at vs (k * m) m (by omega)] at he
    obtain ⟨r1, r2, h1, h2, rfl⟩ := eqInts_app (by simp; omega) he
    have p1 := part_val (w := w) hsz hkm hag
    have p2 := part_val (us := vs) (k := k * m) (w := w) hsz (by omega) hag
    have q := heq ((us.drop (k * m)).take m) ((vs.drop (k * m)).take m) r1 w (by simp; omega) (by simp; omega) h1
    have ih := eqItems_flat hsz hag heq us vs c (k + 1) r2 w (by rw [hl]; congr 1; omega) hl2 (by rw [hk1]; exact h2)
    rw [List.range'_succ]
    simp only [Op.eqItems, Sem.run_bind, p1, p2, Result.andThen_ok, q, Sem.run_ite]
    cases r1 with
    | true => simpa using ih
    | false => simp

theorem eq_flat : ∀ (d D : Nat) (t : TypeId) (m : Nat), d ≤ D → flatT P d t = some m → ∀ (us vs : List Value) (r : Bool) (w : World), us.length = m → vs.length = m → eqInts (us.map .s) (vs.map .s) = some r →
    (Op.equalIn D t (valOf P t us) (valOf P t vs)).run P w = .ok r w
  | 0, D, t, m, _, h => by simp [flatT] at h
  | d + 1, 0, t, m, hd, h => by omega
  | d + 1, D + 1, t, m, hd, h => by
    intro us vs r w hu hv he
    obtain ⟨hsz, _⟩ := flatT_inv h
    simp only [flatT] at h
    obtain ⟨m', h1, h2⟩ := Option.bind_eq_some_iff.1 h
    split at h2
    case isFalse => cases h2
    simp only [Option.some.injEq] at h2
    subst h2
    have one : ∀ {us vs : List Value}, us.length = 1 → vs.length = 1 → ∃ a b, us = [a] ∧ vs = [b] := fun {us vs} h1 h2 => by
      match us, vs, h1, h2 with
      | [a], [b], _, _ => exact ⟨a, b, rfl, rfl⟩
    split at h1
    · rename_i k hun
      simp only [Option.some.injEq] at h1
      subst h1
      obtain ⟨a, b, rfl, rfl⟩ := one hu hv
      have hag := aggB_of hun
      simp only [valOf, hag, aggD]
      simp only [List.map_cons, List.map_nil] at he
      cases a with
      | int ka a => cases b with
        | int kb b =>
          simp only [eqInts] at he
          split at he
          case isFalse => cases he
          rename_i hk
          subst hk
          simp at he
          subst he
          simpa using run_equalIn_int w D t ka k a b hun
        | _ => simp [eqInts] at he
      | _ => simp [eqInts] at he
    · rename_i fs hun
      split at h1
      case isTrue => cases h1
      rename_i hstood
      have hf : P.fieldsOf t = fs := by unfold Program.fieldsOf; rw [hun]
      have hag := aggB_of hun
      simp only [valOf, hag, aggD, if_true]
      rw [run_equalIn_struct w D t us.toArray vs.toArray (by rw [hf]; exact hun) (by simpa using hstood), hf]
      exact eqFields_flat (D := D) (g := flatT P d) (fun t m h => ⟨(flatT_inv h).1, (flatT_inv h).2, eq_flat d D t m (by omega) h⟩) us vs fs.toList 0 r w (by rw [hu]; exact h1) (by rw [hu, hv]) (by simpa using he)
    · rename_i n e hun
      obtain ⟨m2, hm2, rfl⟩ := Option.map_eq_some_iff.1 h1
      have hag := aggB_of hun
      obtain ⟨hsz2, hag2⟩ := flatT_inv hm2
      obtain ⟨i, hi, hisz⟩ := szOf_info hsz2
      have hcell : P.cellsOf e = m2 := by unfold Program.cellsOf; simp [hi, hisz]
      simp only [valOf, hag, aggD, if_true]
      rw [run_equalIn_array w D us.toArray vs.toArray hun hi, hcell, List.range_eq_range']
      exact eqItems_flat (D := D) hsz2 hag2 (eq_flat d D e m2 (by omega) hm2) us vs n 0 r w (by rw [hu, Nat.zero_add]) (by rw [hu, hv]) (by simpa using he)
    · cases h1

end

/-- a struct or an array of whole numbers and truths -/
def flatEq (P : Program) (t : TypeId) : Bool := (match isAggB P t with | some b => b | none => false) && (match szOf P t, flatT P 50 t with | some a, some b => a == b | _, _ => false) && !P.eqGuardType P.depth t

theorem eqOk_flat {P : Program} {E : EqT} (h : ∀ t, E t = true → flatEq P t = true) : EqOk P E := by
  intro t ht us vs r xo yo hsz he w
  have hi := h t ht
  unfold flatEq at hi
  simp only [Bool.and_eq_true, Bool.not_eq_true'] at hi
  obtain ⟨⟨h1, h2⟩, h3⟩ := hi
  have hag : isAggB P t = some true := by
    split at h1
    · rename_i b hb; rw [hb, h1]
    · cases h1
  rw [hsz] at h2
  cases hf : flatT P 50 t with
  | none => rw [hf] at h2; simp at h2
  | some m =>
    rw [hf] at h2
    simp at h2
    subst h2
    have hl : us.length = vs.length := by simpa using eqInts_len he
    have hrun := eq_flat 50 10000 t us.length (by omega) hf us vs r w rfl hl.symm he
    simp only [valOf, hag, if_true] at hrun
    constructor
    · rw [Sem.run_bind, run_eqGuard_agg w .eql t xo yo us.toArray vs.toArray h3, Result.andThen_ok, run_eql_struct, hrun]; rfl
    · rw [Sem.run_bind, run_eqGuard_agg w .neq t xo yo us.toArray vs.toArray h3, Result.andThen_ok, run_neq_struct, hrun]; rfl

/-- no function is known -/
def orc0 : Orc := fun _ => none
theorem orc0_ok {P : Program} : ∀ g sp, orc0 g = some sp → Impl P g sp := fun g sp h => by cases h
theorem orc_upd {P : Program} {C : Orc} {f : Nat} {sp : Spec} (hC : ∀ g sp, C g = some sp → Impl P g sp) (h : Impl P f sp) : ∀ g sp', upd C f (some sp) g = some sp' → Impl P g sp' := fun g sp' hg => by
  simp only [upd] at hg
  split at hg
  · rename_i e
    subst e
    simp only [Option.some.injEq] at hg
    subst hg
    exact h
  · exact hC g sp' hg

end Go.Proofs.YtkfmecmmbnehjaaGreat
