/-
The plain reckoning of a function's text stands for its run: what it shows of the answer holds of the call. No condition.
-/
import Derived.Test.YtbmgaebhcomjaaaAbX
namespace Go.Proofs.Ytbmgaebhcomjaaa
set_option linter.unusedSimpArgs false
set_option linter.unusedVariables false

section
variable {P : Program} {w0 w : World} {I : Ow} {n : Nat} {s s' : S} {env : Nat → V} {st : Nat → Blk} {a : Act} {η : Nat → Value} {C : Orc} {E : EqT}

theorem step_value {o : Oper} {z : V} {u : List (Nat × Blk)} (h : Rel w0 I n s a w η) (hop : opV P C E o (ev s.env) s.st = some (z, u)) (hs : stepV P C E n o s = some s') {K : Act → World → Prop} {Q : Exit → Act → World → Prop}
    (hK : ∀ η' a' w', Rel w0 I n s' a' w' η' → K a' w')
    (hr : ∃ r w' η', (execOp a.eval o).run P w = .ok (.value r) w' ∧ Rel w0 I n ⟨s.env, ups s.st u⟩ a w' η' ∧ RV (cx w0 I (ups s.st u) w' η') r z) : o.wp P a w K Q := by
  obtain ⟨r, w', η', hrun, hrel, hv⟩ := hr
  unfold Oper.wp
  rw [hrun]
  unfold stepV at hs
  rw [hop] at hs
  simp only [Option.bind_some] at hs
  simp only [Oper.upon]
  split at hs
  · rename_i d hd
    split at hs
    case isFalse => cases hs
    rename_i hdn
    simp only [Option.some.injEq] at hs
    subst hs
    rw [hd]
    exact hK η' _ _ (hrel.put hv hdn)
  · rename_i hd
    simp only [Option.some.injEq] at hs
    subst hs
    rw [hd]
    exact hK η' _ _ hrel

theorem pure_value {o : Oper} {x : Option V} {z : V} {u : List (Nat × Blk)} (h : Rel w0 I n s a w η) (hx : x.map (fun v => (v, ([] : List (Nat × Blk)))) = some (z, u))
    (hr : ∀ z, x = some z → ∃ r, (execOp a.eval o).run P w = .ok (.value r) w ∧ RV (cx w0 I s.st w η) r z) :
    ∃ r w' η', (execOp a.eval o).run P w = .ok (.value r) w' ∧ Rel w0 I n ⟨s.env, ups s.st u⟩ a w' η' ∧ RV (cx w0 I (ups s.st u) w' η') r z := by
  obtain ⟨z', hz, he⟩ := Option.map_eq_some_iff.1 hx
  simp only [Prod.mk.injEq] at he
  obtain ⟨rfl, rfl⟩ := he
  obtain ⟨r, h1, h2⟩ := hr z' hz
  exact ⟨r, w, η, h1, h, h2⟩

theorem zeroOf_info {t : Nat} {z : Value} (h : zeroOf P t = some z) : ∃ i, P.info? t = some i ∧ i.zero = some z := by
  unfold zeroOf at h
  obtain ⟨i, hi, h'⟩ := Option.bind_eq_some_iff.1 h
  exact ⟨i, hi, h'⟩

theorem evals (h : Rel w0 I n s a w η) (l : List Operand) : PW (RV (cx w0 I s.st w η)) (l.map a.eval) (l.map (ev s.env)) := by
  refine ⟨by simp, fun i u x hu hx => ?_⟩
  rw [List.getElem?_map] at hu hx
  obtain ⟨o, ho, rfl⟩ := Option.map_eq_some_iff.1 hu
  rw [ho] at hx
  simp at hx
  subst hx
  exact h.eval o

theorem arr_map {α β : Type} (f : α → β) (ps : Array α) : ps.map f = (ps.toList.map f).toArray := by apply Array.toList_inj.1; simp

theorem pickV_rv {c : Cx} {u v : Value} {x y : V} (b : Bool) (h1 : RV c u x) (h2 : RV c v y) : RV c (if b then u else v) (pickV b x y) := by
  cases b
  · exact h2
  · exact h1

theorem op_sound (hC : ∀ g sp, C g = some sp → Impl P g sp) (hE : EqOk P E) (h : Rel w0 I n s a w η) {o : Oper} (hs : stepV P C E n o s = some s') {K : Act → World → Prop} {Q : Exit → Act → World → Prop}
    (hK : ∀ η' a' w', Rel w0 I n s' a' w' η' → K a' w') : o.wp P a w K Q := by
  obtain ⟨⟨z, u⟩, hop, _⟩ := Option.bind_eq_some_iff.1 hs
  obtain ⟨env, st⟩ := s
  have hop0 := hop
  unfold opV at hop
  cases ho : o.op <;> simp only [ho, reduceCtorEq] at hop
  case move x =>
    exact step_value h hop0 hs hK (pure_value h hop fun z hz => ⟨a.eval x, by simp [execOp, ho], by simp only [Option.some.injEq] at hz; subst hz; exact h.eval x⟩)
  case assign x =>
    exact step_value h hop0 hs hK (pure_value h hop fun z hz => ⟨a.eval x, by simp [execOp, ho], by simp only [Option.some.injEq] at hz; subst hz; exact h.eval x⟩)
  case pick c x y =>
    split at hop
    · rename_i b hb
      have hc := h.eval c
      simp only at hc
      rw [hb] at hc
      exact step_value h hop0 hs hK (pure_value h hop fun z hz => ⟨if b then a.eval x else a.eval y, by simp [execOp, ho, hc.s_inv, asBool], by simp only [Option.some.injEq] at hz; subst hz; exact pickV_rv b (h.eval x) (h.eval y)⟩)
    · cases hop
  case alloc t =>
    obtain ⟨zv, hzv, he⟩ := Option.map_eq_some_iff.1 hop
    simp only [Prod.mk.injEq] at he
    obtain ⟨rfl, rfl⟩ := he
    obtain ⟨i, hi, hiz⟩ := zeroOf_info hzv
    obtain ⟨η', h1, h2⟩ := h.new (d := o.dst.getD 0) (e := t) (us := zv.cells.toList) (cs := zv.cells.toList.map .s) (PW.consts _ fun v => .s v)
    simp only [Array.toArray_toList] at h1 h2
    exact step_value h hop0 hs hK ⟨_, _, η', by simp [execOp, ho, Instr.alloc, zeroValue, typeInfo, hi, hiz, newVar, newRow], h1, h2⟩
  case box t x =>
    simp only [Option.some.injEq, Prod.mk.injEq] at hop
    obtain ⟨rfl, rfl⟩ := hop
    obtain ⟨η', h1, h2⟩ := h.new (d := o.dst.getD 0) (e := t) (us := (a.eval x).cells.toList) (cs := (ev env x).cells) (h.eval x).cells
    simp only [Array.toArray_toList] at h1 h2
    exact step_value h hop0 hs hK ⟨_, _, η', by simp [execOp, ho, Instr.box, newVar, newRow], h1, h2⟩
  case build t ps =>
    refine step_value h hop0 hs hK (pure_value h hop fun z hz => ?_)
    obtain ⟨cs, hcs, rfl⟩ := Option.map_eq_some_iff.1 hz
    obtain ⟨r, h1, h2⟩ := build_sound h (ps := ps.toList) hcs
    refine ⟨r, ?_, h2⟩
    simp only [execOp, ho]
    rw [show (Array.map (fun (x : Nat × Operand) => match x with | (i, x) => (i, a.eval x)) ps) = (ps.toList.map fun p => (p.1, a.eval p.2)).toArray from arr_map _ ps]
    simp [h1]
  case buildSlice t m ps =>
    split at hop
    case isFalse => cases hop
    obtain ⟨r, w', η', h1, h2, h3⟩ := buildSlice_sound h (ps := ps.toList) (d := o.dst.getD 0) hop
    refine step_value h hop0 hs hK ⟨r, w', η', ?_, h2, h3⟩
    simp only [execOp, ho]
    rw [show (Array.map (fun (x : Nat × Operand) => match x with | (i, x) => (i, a.eval x)) ps) = (ps.toList.map fun p => (p.1, a.eval p.2)).toArray from arr_map _ ps]
    simp [h1]
  case makeSlice t m m' =>
    split at hop
    case isFalse => cases hop
    split at hop
    case h_2 => cases hop
    rename_i p q hp hq
    split at hop
    case isFalse => cases hop
    rename_i hpq
    subst hpq
    obtain ⟨r, w', η', h1, h2, h3⟩ := make_sound h (d := o.dst.getD 0) hop
    have e1 := h.eval m
    have e2 := h.eval m'
    simp only at e1 e2
    rw [hp] at e1
    rw [hq] at e2
    exact step_value h hop0 hs hK ⟨r, w', η', by simp [execOp, ho, e1.s_inv, e2.s_inv, h1], h2, h3⟩
  case makeInterface t x =>
    refine step_value h hop0 hs hK (pure_value h hop fun z hz => ?_)
    obtain ⟨r, h1, h2⟩ := iface_sound (P := P) hz (h.eval x) w
    exact ⟨r, by simp [execOp, ho, h1], h2⟩
  case typeAssert x xt t ok =>
    refine step_value h hop0 hs hK (pure_value h hop fun z hz => ?_)
    obtain ⟨r, h1, h2⟩ := assert_sound (P := P) (xt := xt) hz (h.eval x) w
    exact ⟨r, by simp [execOp, ho, h1], h2⟩
  case load t x =>
    refine step_value h hop0 hs hK (pure_value h hop fun z hz => ?_)
    obtain ⟨r, h1, h2⟩ := load_sound h hz (h.eval x)
    exact ⟨r, by simp [execOp, ho, h1], h2⟩
  case store t x y =>
    split at hop
    case isFalse => cases hop
    rename_i hd
    obtain ⟨us, hus, he⟩ := Option.map_eq_some_iff.1 hop
    simp only [Prod.mk.injEq] at he
    obtain ⟨rfl, rfl⟩ := he
    obtain ⟨w', h1, h2⟩ := store_sound h hus (h.eval x) (h.eval y)
    have hd' : o.dst = none := by simpa using hd
    unfold stepV at hs
    rw [hop0] at hs
    simp only [Option.bind_some, hd', Option.some.injEq] at hs
    subst hs
    unfold Oper.wp
    have : (execOp a.eval o).run P w = .ok .skip w' := by simp [execOp, ho, h1]
    rw [this]
    simp only [Oper.upon, hd', Act.put]
    exact hK η a w' h2
  case binOp op t x y ty =>
    refine step_value h hop0 hs hK (pure_value h hop fun z hz => ?_)
    obtain ⟨r, h1, h2⟩ := bin_sound (P := P) hE hz (h.eval x) (h.eval y) x y w
    refine ⟨r, ?_, h2⟩
    simp only [execOp, ho]
    rw [Sem.run_bind, h1]
    simp
  case unOp op t x =>
    refine step_value h hop0 hs hK (pure_value h hop fun z hz => ?_)
    obtain ⟨r, h1, h2⟩ := un_sound (P := P) hz (h.eval x) w
    exact ⟨r, by simp [execOp, ho, h1], h2⟩
  case convert src dst x =>
    obtain ⟨z', hz, he⟩ := Option.map_eq_some_iff.1 hop
    simp only [Prod.mk.injEq] at he
    obtain ⟨rfl, rfl⟩ := he
    obtain ⟨r, w', h1, h2, h3⟩ := conv_sound h hz (h.eval x)
    exact step_value h hop0 hs hK ⟨r, w', η, by simp [execOp, ho, h1], h2, h3⟩
  case makeFunc f first caps =>
    cases f <;> simp only [reduceCtorEq] at hop
    rename_i f'
    split at hop
    case isFalse => cases hop
    rename_i h0
    refine step_value h hop0 hs hK (pure_value h hop fun z hz => ?_)
    simp only [Option.some.injEq] at hz
    subst hz
    have hp := evals h caps.toList
    have hf : first = #[] := by simpa using h0
    refine ⟨.func (.func f') #[] (caps.toList.map a.eval).toArray, ?_, .fn f' _ _ hp.1 hp.2⟩
    simp [execOp, ho, Instr.makeFunc, hf, arr_map]
  case slice t x lo hi mx =>
    split at hop <;> try (simp only [reduceCtorEq] at *; done)
    rename_i t' x' lo' hi' hfe
    simp only [Op.slice.injEq] at hfe
    obtain ⟨rfl, rfl, rfl, rfl, rfl⟩ := hfe
    refine step_value h hop0 hs hK (pure_value h hop fun z hz => ?_)
    obtain ⟨r, h1, h2⟩ := slice_sound (P := P) h (lo' := lo.map a.eval) (hi' := hi.map a.eval) hz (h.eval x)
      (fun y hy => by obtain ⟨q, rfl, rfl⟩ := Option.map_eq_some_iff.1 hy; exact ⟨_, rfl, h.eval q⟩) (fun hy => by cases lo <;> simp_all)
      (fun y hy => by obtain ⟨q, rfl, rfl⟩ := Option.map_eq_some_iff.1 hy; exact ⟨_, rfl, h.eval q⟩) (fun hy => by cases hi <;> simp_all)
    exact ⟨r, by simp [execOp, ho, h1], h2⟩
  case fieldAddr t x k =>
    obtain ⟨off, hoff, hop2⟩ := Option.bind_eq_some_iff.1 hop
    refine step_value h hop0 hs hK (pure_value h hop2 fun z hz => ?_)
    obtain ⟨r, h1, h2⟩ := fieldAddr_sound (P := P) h hoff (h.eval x) hz
    exact ⟨r, by simp [execOp, ho, h1], h2⟩
  case nilCheck x =>
    refine step_value h hop0 hs hK (pure_value h hop fun z hz => ?_)
    obtain ⟨h1, g, h2⟩ := nil_sound h (h.eval x) hz
    exact ⟨a.eval x, by simp [execOp, ho, h2], h1⟩
  case indexAddr t x i =>
    refine step_value h hop0 hs hK (pure_value h hop fun z hz => ?_)
    obtain ⟨r, h1, h2⟩ := indexAddr_sound (P := P) h hz (h.eval x) (h.eval i)
    exact ⟨r, by simp [execOp, ho, h1], h2⟩
  case index t x i =>
    refine step_value h hop0 hs hK (pure_value h hop fun z hz => ?_)
    obtain ⟨r, h1, h2⟩ := index_sound (P := P) (w := w) hz (h.eval x) (h.eval i)
    exact ⟨r, by simp [execOp, ho, h1], h2⟩
  case extract x i =>
    split at hop
    · rename_i l hl
      refine step_value h hop0 hs hK (pure_value h hop fun z hz => ?_)
      have hx := h.eval x
      simp only at hx
      rw [hl] at hx
      obtain ⟨us, hus, hp⟩ := hx.tup_inv
      obtain ⟨r, h1, h2⟩ := hp.get hz
      exact ⟨r, by simp [execOp, ho, hus, Instr.extract, h1], h2⟩
    · cases hop
  case call c =>
    split at hop
    case isFalse => cases hop
    split at hop
    · rename_i hcal
      split at hop
      · rename_i t x ht hx
        refine step_value h hop0 hs hK (pure_value h hop fun z hz => ?_)
        obtain ⟨r, h1, h2⟩ := len_sound (P := P) h hz (h.eval x) o.type
        refine ⟨r, ?_, h2⟩
        have e1 : c.argTypes = #[t] := by rw [← Array.toArray_toList (xs := c.argTypes), ht]
        have e2 : c.args = #[x] := by rw [← Array.toArray_toList (xs := c.args), hx]
        simp [execOp, ho, resolve, hcal, e1, e2, invoke, builtin, h1]
      · cases hop
    · rename_i hcal
      split at hop
      · rename_i t t2 x y ht hx
        split at hop
        case isFalse => cases hop
        rename_i htt
        subst htt
        obtain ⟨r, w', η', h1, h2, h3⟩ := append_sound h hop (h.eval x) (h.eval y) o.type
        refine step_value h hop0 hs hK ⟨r, w', η', ?_, h2, h3⟩
        have e1 : c.argTypes = #[t, t] := by rw [← Array.toArray_toList (xs := c.argTypes), ht]
        have e2 : c.args = #[x, y] := by rw [← Array.toArray_toList (xs := c.args), hx]
        simp [execOp, ho, resolve, hcal, e1, e2, invoke, builtin, h1]
      · cases hop
    · rename_i hcal
      refine step_value h hop0 hs hK (pure_value h hop fun z hz => ?_)
      have he := evals h c.args.toList
      simp only at he hz
      generalize hxs : c.args.toList.map (ev env) = xs at he hz
      unfold maxV at hz
      split at hz
      case h_2 => cases hz
      rename_i k x k' y
      simp only [Option.some.injEq] at hz
      subst hz
      obtain ⟨u1, us1, hu1, r1, p1⟩ := he.uncons
      obtain ⟨u2, us2, rfl, r2, p2⟩ := p1.uncons
      have := p2.nil_r
      subst this
      rw [r1.s_inv, r2.s_inv] at hu1
      refine ⟨_, ?_, .s _⟩
      have e2 : c.args.map a.eval = #[.int k x, .int k' y] := by rw [arr_map, hu1]
      simp only [execOp, ho, resolve, hcal, invoke, builtin, Sem.run_bind, Sem.run_pure, Result.andThen_ok, e2]
      simp [Builtin.max_, Builtin.max2]
    · rename_i hcal
      refine step_value h hop0 hs hK (pure_value h hop fun z hz => ?_)
      have he := evals h c.args.toList
      simp only at he hz
      generalize hxs : c.args.toList.map (ev env) = xs at he hz
      unfold minV at hz
      split at hz
      case h_2 => cases hz
      rename_i k x k' y
      simp only [Option.some.injEq] at hz
      subst hz
      obtain ⟨u1, us1, hu1, r1, p1⟩ := he.uncons
      obtain ⟨u2, us2, rfl, r2, p2⟩ := p1.uncons
      have := p2.nil_r
      subst this
      rw [r1.s_inv, r2.s_inv] at hu1
      refine ⟨_, ?_, .s _⟩
      have e2 : c.args.map a.eval = #[.int k x, .int k' y] := by rw [arr_map, hu1]
      simp only [execOp, ho, resolve, hcal, invoke, builtin, Sem.run_bind, Sem.run_pure, Result.andThen_ok, e2]
      simp [Builtin.min_, Builtin.min2]
    · rename_i f hcal
      obtain ⟨g, caps, hg, ⟨fn, hfn, hname, hbody⟩, hcalls⟩ := call_sound hC h (h.eval f) (evals h c.args.toList) hop
      have hrun : (execOp a.eval o).run P w = .ok (.enter g ((c.args.toList.map a.eval).toArray ++ caps)) w := by
        simp only [execOp, ho, resolve, hcal, hg, Deferred.ofValue, Sem.run_bind, Sem.run_pure, Result.andThen_ok, invoke, callFunc]
        have hn : fn.name ≠ "runtime.NumGoroutine" := by simpa using hname
        have hb : fn.body ≠ none := by intro h; rw [h] at hbody; cases hbody
        simp [hfn, hn, hb, arr_map]
      unfold Oper.wp
      rw [hrun]
      simp only [Oper.upon]
      refine hcalls.mono ?_
      rintro e w' ⟨v, η', rfl, h1, h2⟩
      unfold stepV at hs
      rw [hop0] at hs
      simp only [Option.bind_some] at hs
      split at hs
      · rename_i d hd
        split at hs
        case isFalse => cases hs
        rename_i hdn
        simp only [Option.some.injEq] at hs
        subst hs
        simp only [hd]
        exact hK η' _ _ (h1.put h2 hdn)
      · rename_i hd
        simp only [Option.some.injEq] at hs
        subst hs
        simp only [hd]
        exact hK η' _ _ h1
    · cases hop
end

end Go.Proofs.Ytbmgaebhcomjaaa
