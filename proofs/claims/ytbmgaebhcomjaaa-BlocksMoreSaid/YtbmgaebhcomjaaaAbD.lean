/-
Regions that draw their order: the plain reckoning in the text's order stands for every order. No condition.
-/
import Derived.Test.YtbmgaebhcomjaaaAbY
namespace Go.Proofs.Ytbmgaebhcomjaaa
set_option linter.unusedSimpArgs false
set_option linter.unusedVariables false

section
variable {P : Program} {w0 w : World} {I : Ow} {n : Nat} {s s' : S} {env : Nat → V} {st st' : Nat → Blk} {a : Act} {η : Nat → Value} {C : Orc} {E : EqT} {B T : List Nat}

theorem opV_congr {o : Oper} {ρ ρ' : Operand → V} (h : ∀ x ∈ o.op.operands, ρ x = ρ' x) : opV P C E o ρ st = opV P C E o ρ' st := by
  have hps : ∀ ps : Array (Nat × Operand), (∀ x ∈ ps.map (·.2), ρ x = ρ' x) → (ps.toList.map fun (p : Nat × Operand) => (p.1, ρ p.2)) = (ps.toList.map fun (p : Nat × Operand) => (p.1, ρ' p.2)) := fun ps hp =>
    List.map_congr_left fun p hm => by rw [hp p.2 (Array.mem_map.2 ⟨p, by simpa using hm, rfl⟩)]
  unfold opV
  cases ho : o.op <;> simp only [ho, Op.operands] at h ⊢
  case move x => rw [h x (by simp)]
  case assign x => rw [h x (by simp)]
  case pick c x y => rw [h c (by simp), h x (by simp), h y (by simp)]
  case box t x => rw [h x (by simp)]
  case build t ps =>
    have := hps ps (fun x hx => h x (by simpa using hx))
    exact congrArg (fun q => Option.map (fun v => (v, [])) (Option.map V.agg (buildC P t q))) this
  case buildSlice t m ps =>
    have := hps ps (fun x hx => h x (by simpa using hx))
    exact congrArg (fun q => if o.dst.isSome = true then buildSliceV P st (o.dst.getD 0) t m q else none) this
  case makeSlice t x y => rw [h x (by simp), h y (by simp)]
  case makeInterface t x => rw [h x (by simp)]
  case typeAssert x xt t ok => rw [h x (by simp)]
  case load t x => rw [h x (by simp)]
  case store t x y => rw [h x (by simp), h y (by simp)]
  case binOp op t x y ty => rw [h x (by simp), h y (by simp)]
  case unOp op t x => rw [h x (by simp)]
  case convert s d x => rw [h x (by simp)]
  case makeFunc f first caps =>
    have : caps.toList.map ρ = caps.toList.map ρ' := List.map_congr_left fun p hp => h p (by simp; right; simpa using hp)
    cases f <;> simp only [this]
  case slice t x lo hi mx =>
    have h1 := h x (by simp)
    have h2 : lo.map ρ = lo.map ρ' := by cases lo with
      | none => rfl
      | some q => simp [h q (by simp)]
    have h3 : hi.map ρ = hi.map ρ' := by cases hi with
      | none => rfl
      | some q => simp [h q (by simp)]
    cases mx <;> simp only [h1, h2, h3]
  case fieldAddr t x k => rw [h x (by simp)]
  case nilCheck x => rw [h x (by simp)]
  case indexAddr t x i => rw [h x (by simp), h i (by simp)]
  case index t x i => rw [h x (by simp), h i (by simp)]
  case extract x i => rw [h x (by simp)]
  case call c =>
    have ha : c.args.toList.map ρ = c.args.toList.map ρ' := List.map_congr_left fun p hp => h p (by simp [Call.operands]; right; simpa using hp)
    cases hc : c.callee with
    | value f =>
      have hf : ρ f = ρ' f := h f (by simp [Call.operands, hc])
      simp only [ha, hf]
    | invoke r m => rfl
    | builtin b =>
      have hx : ∀ x ∈ c.args.toList, ρ x = ρ' x := fun x hx => h x (by simp [Call.operands]; right; simpa using hx)
      cases b <;> simp only
      · split
        · split
          · rename_i t u x y ht hxy
            rw [hx x (by rw [hxy]; simp), hx y (by rw [hxy]; simp)]
          · rfl
        · rfl
      · split
        · split
          · rename_i t x ht hxx
            rw [hx x (by rw [hxx]; simp)]
          · rfl
        · rfl
      · rw [ha]
      · rw [ha]

theorem apartL_spec {l B : List Nat} (h : apartL l B = true) : ∀ x ∈ l, x ∉ B := fun x hx => by
  have := List.all_eq_true.1 h x hx
  simpa using this

theorem exp_closed : ∀ (k : Nat) (x : V), x.clo false = true → expV st k x = expV st' k x
  | 0, x, _ => rfl
  | k + 1, x, hx => by
    have ml : ∀ l : List V, V.cloL false l = true → l.mapM (expV st k) = l.mapM (expV st' k) := fun l => by
      induction l with
      | nil => intro _; rfl
      | cons y l ih =>
        intro h
        simp only [V.cloL, Bool.and_eq_true] at h
        rw [List.mapM_cons, List.mapM_cons, exp_closed k y h.1, ih h.2]
    cases x <;> simp only [expV]
    case agg l => rw [ml l (by simpa [V.clo] using hx)]
    case tup l => rw [ml l (by simpa [V.clo] using hx)]
    case fn f l => rw [ml l (by simpa [V.clo] using hx)]
    case sw => simp [V.clo] at hx
    case sp => simp [V.clo] at hx
    case bp => simp [V.clo] at hx
    case ptr => simp [V.clo] at hx

theorem args_closed : ∀ (mv : List Bool) (xs : List V), (∀ x ∈ xs, x.clo false = true) → argsV st mv xs = argsV st' mv xs
  | mv, [], _ => by simp [argsV]
  | mv, x :: xs, h => by
    have ih := args_closed mv.tail xs fun y hy => h y (by simp [hy])
    have hx := h x (by simp)
    simp only [argsV, ih]
    congr 1
    funext p
    obtain ⟨ys, bs⟩ := p
    simp only
    have hm : x.movable = false := by cases x <;> simp [V.clo] at hx <;> rfl
    rw [hm, Bool.and_false]
    simp only
    rw [exp_closed 4 _ hx]
theorem args_nil : ∀ (mv : List Bool) (xs : List V) (ys : List V) (bs : List Nat), (∀ x ∈ xs, x.clo false = true) → argsV st mv xs = some (ys, bs) → bs = []
  | mv, [], ys, bs, _, h => by simp [argsV] at h; exact h.2
  | mv, x :: xs, ys, bs, hc, h => by
    simp only [argsV] at h
    obtain ⟨⟨ys', bs'⟩, h1, h2⟩ := Option.bind_eq_some_iff.1 h
    have ih := args_nil mv.tail xs ys' bs' (fun y hy => hc y (by simp [hy])) h1
    have hx := hc x (by simp)
    have hm : x.movable = false := by cases x <;> simp [V.clo] at hx <;> rfl
    rw [hm, Bool.and_false] at h2
    simp only at h2
    obtain ⟨y, _, h3⟩ := Option.bind_eq_some_iff.1 h2
    simp only [Option.some.injEq, Prod.mk.injEq] at h3
    rw [← h3.2]; exact ih

/-- an operation that turns nothing and reads nothing that turns -/
theorem opV_off {o : Oper} {ρ : Operand → V} {v : V} (h : opV P C E o ρ st = some (v, [])) (hr : readsOk B o.op ρ = true) (hb : ∀ b, b ∉ B → st' b = st b) : opV P C E o ρ st' = some (v, []) := by
  unfold readsOk at hr
  simp only [Bool.or_eq_true] at hr
  rcases hr with hr | hr
  · have : B = [] := by simpa using hr
    subst this
    have : st' = st := funext fun b => hb b (by simp)
    rw [this]; exact h
  have rowA : ∀ b ver, b ∉ B → rowAt st' b ver = rowAt st b ver := fun b ver hbb => by unfold rowAt; rw [hb b hbb]
  have anyA : ∀ b ver, b ∉ B → rowAny st' b ver = rowAny st b ver := fun b ver hbb => by unfold rowAny; rw [hb b hbb]
  have boxA : ∀ b ver, b ∉ B → boxAt st' b ver = boxAt st b ver := fun b ver hbb => by unfold boxAt; rw [hb b hbb]
  have elemsA : ∀ x : V, apartL x.ref B = true → elemsOf st' x = elemsOf st x := fun x hx => by
    cases x <;> simp only [elemsOf]
    case sw b ver len => rw [rowA b ver (apartL_spec hx b (by simp [V.ref]))]
    case sp b ver sz off len => rw [rowA b ver (apartL_spec hx b (by simp [V.ref]))]
  unfold opV at h ⊢
  cases ho : o.op <;> simp only [ho] at h hr ⊢ <;> try (first | exact h | (cases hr; done))
  case makeFunc f first caps => cases f <;> exact h
  case load t x =>
    have : loadV P st' t (ρ x) = loadV P st t (ρ x) := by
      unfold loadV
      cases hx : ρ x <;> simp only <;> rw [hx] at hr
      case ptr b ver off => rw [boxA b ver (apartL_spec hr b (by simp [V.ref]))]
      case rp b ver sz i off => rw [anyA b ver (apartL_spec hr b (by simp [V.ref]))]
    rw [this]; exact h
  case convert s d x =>
    have : convV P st' s d (ρ x) = convV P st s d (ρ x) := by
      unfold convV
      have he := elemsA _ hr
      have hr' : ∀ b ver n, ρ x = .sw b ver n → rowAt st' b ver = rowAt st b ver := fun b ver n hx => by
        rw [hx] at hr
        exact rowA b ver (apartL_spec hr b (by simp [V.ref]))
      generalize ρ x = y at he hr'
      cases P.underlying s with
      | none => rfl
      | some u => cases P.underlying d with
        | none => rfl
        | some u' => cases u <;> cases u' <;> first
          | rfl
          | (cases y <;> first | rfl | (simp only [he]; done) | (rename_i b ver n; have := hr' b ver n rfl; simp only [this]; done) | (rename_i v; cases v <;> first | rfl | (simp only [he]; done)))
          | (split <;> first | rfl | (split <;> first | rfl | (rw [hr' _ _ _ rfl]; done) | (split <;> first | rfl | (simp only [he]; done)) | (simp only [he]; done)))
    rw [this]; exact h
  case slice t x lo hi mx =>
    have : ∀ lo hi, sliceV P st' t (ρ x) lo hi = sliceV P st t (ρ x) lo hi := fun lo hi => by
      unfold sliceV
      have hr1 : ∀ b ver n, ρ x = .sw b ver n → rowAny st' b ver = rowAny st b ver := fun b ver n hx => by
        rw [hx] at hr
        exact anyA b ver (apartL_spec hr b (by simp [V.ref]))
      have hr2 : ∀ b ver sz off len, ρ x = .sp b ver sz off len → rowAny st' b ver = rowAny st b ver := fun b ver sz off len hx => by
        rw [hx] at hr
        exact anyA b ver (apartL_spec hr b (by simp [V.ref]))
      have hr3 : ∀ b ver off, ρ x = .ptr b ver off → boxAt st' b ver = boxAt st b ver := fun b ver off hx => by
        rw [hx] at hr
        exact boxA b ver (apartL_spec hr b (by simp [V.ref]))
      generalize ρ x = y at hr1 hr2 hr3
      cases P.underlying t with
      | none => rfl
      | some u => cases u <;> cases y <;> first
        | rfl
        | (rename_i b ver n; have := hr1 b ver n rfl; simp only [this]; done)
        | (rename_i b ver sz off len; have := hr2 b ver sz off len rfl; simp only [this]; done)
        | (rename_i b ver off; have := hr3 b ver off rfl; simp only [this]; done)
        | (rename_i v; cases v <;> rfl)
    cases mx <;> simp only [this] at h ⊢ <;> exact h
  case fieldAddr t x k =>
    have : ∀ off, fieldAddrV st' off (ρ x) = fieldAddrV st off (ρ x) := fun off => by
      cases hx : ρ x <;> simp only [fieldAddrV] <;> rw [hx] at hr
      case ptr b ver o' => rw [boxA b ver (apartL_spec hr b (by simp [V.ref]))]
      case rp b ver sz i o' => rw [anyA b ver (apartL_spec hr b (by simp [V.ref]))]
    simp only [this]; exact h
  case nilCheck x =>
    have : ∀ off, fieldAddrV st' off (ρ x) = fieldAddrV st off (ρ x) := fun off => by
      cases hx : ρ x <;> simp only [fieldAddrV] <;> rw [hx] at hr
      case ptr b ver o' => rw [boxA b ver (apartL_spec hr b (by simp [V.ref]))]
      case rp b ver sz i o' => rw [anyA b ver (apartL_spec hr b (by simp [V.ref]))]
    simp only [this]; exact h
  case indexAddr t x i =>
    have : indexAddrV P st' t (ρ x) (ρ i) = indexAddrV P st t (ρ x) (ρ i) := by
      unfold indexAddrV
      have hr1 : ∀ b ver n, ρ x = .sw b ver n → rowAny st' b ver = rowAny st b ver := fun b ver n hx => by
        rw [hx] at hr
        exact anyA b ver (apartL_spec hr b (by simp [V.ref]))
      have hr2 : ∀ b ver sz off len, ρ x = .sp b ver sz off len → rowAny st' b ver = rowAny st b ver := fun b ver sz off len hx => by
        rw [hx] at hr
        exact anyA b ver (apartL_spec hr b (by simp [V.ref]))
      have hr3 : ∀ b ver off, ρ x = .ptr b ver off → boxAt st' b ver = boxAt st b ver := fun b ver off hx => by
        rw [hx] at hr
        exact boxA b ver (apartL_spec hr b (by simp [V.ref]))
      generalize ρ x = y at hr1 hr2 hr3
      cases asI (ρ i) with
      | none => rfl
      | some i => cases P.underlying t with
        | none => rfl
        | some u => cases u <;> cases y <;> first
          | rfl
          | (rename_i b ver n; have := hr1 b ver n rfl; simp only [this]; done)
          | (rename_i b ver sz off len; have := hr2 b ver sz off len rfl; simp only [this]; done)
          | (rename_i b ver off; have := hr3 b ver off rfl; simp only [this]; done)
    rw [this]; exact h
  case call c =>
    cases hc : c.callee with
    | invoke r m => simp only [hc] at h; exact h
    | value f =>
      simp only [hc, Bool.and_eq_true] at h hr ⊢
      split at h
      case isFalse => cases h
      rename_i hd
      rw [if_pos hd]
      have hcl : ∀ x ∈ c.args.toList.map ρ, x.clo false = true := fun x hx => by
        obtain ⟨q, hq, rfl⟩ := List.mem_map.1 hx
        exact List.all_eq_true.1 hr.2 q hq
      cases hf : ρ f <;> rw [hf] at h hr <;> simp only [callV, reduceCtorEq] at h ⊢
      rename_i g caps
      have hcaps : ∀ x ∈ caps, x.clo false = true := fun x hx => by
        obtain ⟨i, hi⟩ := List.getElem?_of_mem hx
        exact cloL_get (by simpa [V.clo] using hr.1) hi
      have harg : ∀ mv, argsV st' mv (c.args.toList.map ρ ++ caps) = argsV st mv (c.args.toList.map ρ ++ caps) := fun mv => args_closed mv _ fun x hx => by
        rcases List.mem_append.1 hx with hx | hx
        · exact hcl x hx
        · exact hcaps x hx
      obtain ⟨sp, hsp, h2⟩ := Option.bind_eq_some_iff.1 h
      obtain ⟨⟨ys, bs⟩, hys, h3⟩ := Option.bind_eq_some_iff.1 h2
      obtain ⟨r, hr', h4⟩ := Option.bind_eq_some_iff.1 h3
      have hbs := args_nil sp.mv (c.args.toList.map ρ ++ caps) ys bs (fun x hx => by
        rcases List.mem_append.1 hx with hx | hx
        · exact hcl x hx
        · exact hcaps x hx) hys
      subst hbs
      rw [hsp]
      simp only [Option.bind_some, harg, hys, hr']
      simp only [true_or, if_true] at h4 ⊢
      cases r
      case own sz e l => simp at h4
      case obx cs => simp at h4
      case io t r out =>
        exfalso
        obtain ⟨up, hup, he⟩ := Option.map_eq_some_iff.1 h4
        simp only [List.map_nil, List.nil_append, Prod.mk.injEq] at he
        obtain ⟨_, rfl⟩ := he
        unfold backV at hup
        split at hup
        · split at hup <;> simp at hup
        · split at hup <;> simp at hup
        · cases hup
      all_goals exact h4
    | builtin b =>
      simp only [hc] at h hr ⊢
      cases b <;> simp only at h ⊢ <;> try exact h
      · -- append turns a block
        exfalso
        split at h
        case isFalse => cases h
        split at h
        case h_2 => cases h
        split at h
        case isFalse => cases h
        unfold appendV at h
        split at h
        case h_2 => cases h
        obtain ⟨_, _, h2⟩ := Option.bind_eq_some_iff.1 h
        obtain ⟨_, _, h3⟩ := Option.bind_eq_some_iff.1 h2
        obtain ⟨⟨_, _⟩, _, h4⟩ := Option.bind_eq_some_iff.1 h3
        simp only at h4
        split at h4
        case isFalse => cases h4
        split at h4
        · split at h4 <;> simp at h4
        · obtain ⟨⟨_, _, _, _, _⟩, _, h5⟩ := Option.bind_eq_some_iff.1 h4
          simp only at h5
          split at h5 <;> simp at h5
      · split at h
        case isFalse => cases h
        rename_i hd
        rw [if_pos hd]
        split at h
        · rename_i t x ht hx
          have hxa : apartL (ρ x).ref B = true := List.all_eq_true.1 hr x (by rw [hx]; simp)
          have : lenV P st' t (ρ x) = lenV P st t (ρ x) := by
            unfold lenV
            have he := elemsA _ hxa
            generalize ρ x = y at he
            cases P.underlying t with
            | none => rfl
            | some u => cases u <;> first
              | rfl
              | (split <;> first | rfl | (simp only [he]; done))
          simp only [this]; exact h
        · cases h

/-- what a step leaves -/
def app (s : S) (o : Oper) (v : V) (u : List (Nat × Blk)) : S := match o.dst with
  | some d => ⟨upd s.env d v, ups s.st u⟩
  | none => ⟨s.env, ups s.st u⟩

/-- one operation of the region, wanted or not -/
def stepN (P : Program) (C : Orc) (E : EqT) (n : Nat) (B T : List Nat) (ops : List Oper) (last : Bool) (o : Oper) (s : S) : Option S :=
  match wants ops s.env o with
  | some none => if last then stepV P C E n o s else stepD P C E n B T o s
  | some (some (c, b)) => if c = b then (if last then stepV P C E n o s else stepD P C E n B T o s) else passV n o s
  | none => none

theorem onG_step {ops : List Oper} {o : Oper} {K : S → Prop} {last : Bool} (h : onG (wants ops s.env o) (thenS (if last then stepV P C E n o s else stepD P C E n B T o s) K) (thenS (passV n o s) K)) : ∃ s', stepN P C E n B T ops last o s = some s' ∧ K s' := by
  have th : ∀ {x : Option S}, thenS x K → ∃ s', x = some s' ∧ K s' := fun {x} h => by
    cases x with
    | none => exact h.elim
    | some s' => exact ⟨s', rfl, h⟩
  unfold stepN
  cases hw : wants ops s.env o with
  | none => rw [hw] at h; exact h.elim
  | some g =>
    rw [hw] at h
    cases g with
    | none => exact th h
    | some p =>
      obtain ⟨c, b⟩ := p
      cases b <;> cases c <;> simp only [onG_yes, onG_no, br_true, br_false] at h <;> simp
      all_goals exact th h

def stepI (P : Program) (C : Orc) (E : EqT) (n : Nat) (B T : List Nat) (ops : List Oper) (i : Nat) (s : S) : Option S :=
  stepN P C E n B T ops (decide (i + 1 = ops.length)) (ops.getD i default) s

def runI (P : Program) (C : Orc) (E : EqT) (n : Nat) (B T : List Nat) (ops : List Oper) : List Nat → S → Option S
  | [], s => some s
  | i :: r, s => (stepI P C E n B T ops i s).bind (runI P C E n B T ops r)

theorem run_of {ops : List Oper} {K : S → Prop} : ∀ (r : List Oper) (k : Nat) (s : S), ops.drop k = r → awpOpsD P C E n B T ops K r s → ∃ s', runI P C E n B T ops (List.range' k r.length) s = some s' ∧ K s'
  | [], k, s, _, h => ⟨s, rfl, h⟩
  | o :: r, k, s, hd, h => by
    have hk : ops[k]? = some o := by
      have := congrArg (·[0]?) hd
      simpa using this
    have hd' : ops.drop (k + 1) = r := by rw [← List.drop_drop, hd]; rfl
    have hlen : ops.length = k + (r.length + 1) := by
      have := congrArg List.length hd
      have hlt := (List.getElem?_eq_some_iff.1 hk).1
      simp at this; omega
    have hgd : ops.getD k default = o := by rw [List.getD_eq_getElem?_getD, hk]; rfl
    rw [List.length_cons, List.range'_succ]
    simp only [runI, stepI, hgd]
    cases r with
    | nil =>
      simp only [awpOpsD] at h
      have hl : decide (k + 1 = ops.length) = true := by simp at hlen; simp; omega
      rw [hl]
      obtain ⟨s1, h1, h2⟩ := onG_step (B := B) (T := T) (last := true) (by simpa using h)
      exact ⟨s1, by rw [h1]; rfl, h2⟩
    | cons o' r' =>
      simp only [awpOpsD] at h
      have hl : decide (k + 1 = ops.length) = false := by simp at hlen; simp; omega
      rw [hl]
      obtain ⟨s1, h1, h2⟩ := onG_step (B := B) (T := T) (last := false) (by simpa using h)
      obtain ⟨s2, h3, h4⟩ := run_of (o' :: r') (k + 1) s1 hd' h2
      exact ⟨s2, by rw [h1]; simpa using h3, h4⟩

theorem upd_comm {α : Type} (f : Nat → α) {i j : Nat} (h : i ≠ j) (u v : α) : upd (upd f i u) j v = upd (upd f j v) i u := by
  funext k
  simp only [upd]
  split <;> split <;> simp_all

theorem ups_off {u : List (Nat × Blk)} : ∀ (st : Nat → Blk), (∀ p ∈ u, p.1 ∈ B) → ∀ b, b ∉ B → ups st u b = st b := by
  induction u with
  | nil => intro st _ b _; rfl
  | cons p u ih =>
    intro st h b hb
    obtain ⟨i, k⟩ := p
    simp only [ups]
    rw [ih _ (fun q hq => h q (by simp [hq])) b hb]
    simp only [upd]
    rw [if_neg (show ¬ b = i from fun e => hb (e ▸ h (i, k) (by simp)))]

theorem freeOk_congr {o : Oper} {ρ ρ' : Operand → V} (h : ∀ x ∈ o.op.operands, ρ x = ρ' x) : freeOk T o.op ρ = freeOk T o.op ρ' := by
  unfold freeOk
  cases ho : o.op <;> simp only [ho, Op.operands] at h ⊢
  case call c =>
    cases hc : c.callee with
    | builtin b =>
      have hargs : c.args.toList.map ρ = c.args.toList.map ρ' := List.map_congr_left fun x hx' => h x (by simp [Call.operands]; right; simpa using hx')
      cases b <;> simp only
      have : ∀ k : Nat, (c.args.toList.all fun x => !((ρ x).ref.contains k)) = (c.args.toList.all fun x => !((ρ' x).ref.contains k)) := fun k => by
        have e : ∀ f : Operand → V, (c.args.toList.all fun x => !((f x).ref.contains k)) = (c.args.toList.map f).all fun v => !(v.ref.contains k) := fun f => by rw [List.all_map]; rfl
        rw [e, e, hargs]
      simp only [this]
    | _ => rfl
theorem elems_ref {y : V} (h : ∀ b ∈ y.ref, st' b = st b) : elemsOf st' y = elemsOf st y := by
  cases y <;> simp only [elemsOf, rowAt] <;> simp only [V.ref, List.mem_singleton, forall_eq] at h <;> rw [h]
theorem own_ref {y : V} (h : ∀ b ∈ y.ref, st' b = st b) : ownRow st' y = ownRow st y := by
  cases y <;> simp only [ownRow, rowAt] <;> simp only [V.ref, List.mem_singleton, forall_eq] at h <;> rw [h]
theorem own_in {y : V} {b v sz e : Nat} {l : List V} (h : ownRow st y = some (b, v, sz, e, l)) : b ∈ y.ref := by
  cases y <;> simp only [ownRow] at h <;> try (cases h; done)
  · obtain ⟨q, _, e⟩ := Option.map_eq_some_iff.1 h
    simp at e; simp [V.ref, e.1]
  · obtain ⟨q, _, e⟩ := Option.bind_eq_some_iff.1 h
    split at e
    · simp at e; simp [V.ref, e.1]
    · cases e
theorem append_off {d d0 : Nat} {t : TypeId} {x y : V} (hd : d0 ≠ d) (hx : d ∉ x.ref) (hy : d ∉ y.ref) (hb : ∀ b, b ≠ d → st' b = st b) :
    appendV P st' d0 t x y = appendV P st d0 t x y ∧ ∀ v u, appendV P st d0 t x y = some (v, u) → ∀ p ∈ u, p.1 ≠ d := by
  have e1 := elems_ref (st := st) (st' := st') (y := y) fun b h => hb b fun e => hy (e ▸ h)
  have e2 := own_ref (st := st) (st' := st') (y := x) fun b h => hb b fun e => hx (e ▸ h)
  have e3 := hb d0 hd
  constructor
  · unfold appendV
    split
    case h_2 => rfl
    congr 1; funext sz; congr 1; funext by_
    congr 1
    · split <;> first | rfl | rw [e1]
    · funext ⟨ok, ys⟩
      simp only
      split
      case isFalse => rfl
      split
      · rw [e3]
      · rw [e2]
  · intro v u h p hp
    unfold appendV at h
    split at h
    case h_2 => cases h
    obtain ⟨sz, _, h⟩ := Option.bind_eq_some_iff.1 h
    obtain ⟨by_, _, h⟩ := Option.bind_eq_some_iff.1 h
    obtain ⟨⟨ok, ys⟩, _, h⟩ := Option.bind_eq_some_iff.1 h
    simp only at h
    split at h
    case isFalse => cases h
    split at h
    · split at h
      · cases h; simp only [List.mem_singleton] at hp; rw [hp]; exact hd
      · cases h
    · obtain ⟨⟨b, ver, sz', e', l⟩, ho, h⟩ := Option.bind_eq_some_iff.1 h
      simp only at h
      split at h
      · cases h; simp only [List.mem_singleton] at hp; rw [hp]
        exact fun e => hx (e ▸ own_in ho)
      · cases h

/-- what a step comes to, and that it comes to the same where nothing turned that it reads -/
theorem step_eff {ops : List Oper} {o : Oper} (h : stepN P C E n B T ops false o s = some s') :
    ∃ v u, (turns T o = false → u = []) ∧ (∀ p ∈ u, p.1 ∈ B) ∧ s' = app s o v u ∧
      ∀ env' st', (∀ t ∈ o.looksAt ops.toArray, env' t = s.env t) → (turns T o = true → st' = s.st) → (turns T o = false → ∀ b, b ∉ B → st' b = s.st b) →
        stepN P C E n B T ops false o ⟨env', st'⟩ = some (app ⟨env', st'⟩ o v u) := by
  have wc : ∀ env', (∀ t ∈ o.looksAt ops.toArray, env' t = s.env t) → wants ops env' o = wants ops s.env o := fun env' he => by
    unfold wants
    cases hg : o.guard with
    | none => rfl
    | some jb =>
      obtain ⟨j, b⟩ := jb
      simp only
      cases hj : (ops[j]?).bind (·.dst) with
      | none => rfl
      | some t =>
        simp only
        rw [he t (by
          unfold Oper.looksAt
          refine List.mem_append_right _ ?_
          simp [hg, hj])]
  have ec : ∀ env', (∀ t ∈ o.looksAt ops.toArray, env' t = s.env t) → ∀ x ∈ o.op.operands, ev env' x = ev s.env x := fun env' he x hx => by
    cases x with
    | tmp t => exact he t (List.mem_append_left _ (List.mem_filterMap.2 ⟨.tmp t, by simpa using hx, rfl⟩))
    | _ => rfl
  have rc : ∀ env', (∀ t ∈ o.looksAt ops.toArray, env' t = s.env t) → readsOk B o.op (ev s.env) = true → readsOk B o.op (ev env') = true := fun env' he h => by
    have hx := ec env' he
    unfold readsOk at h ⊢
    cases ho : o.op <;> simp only [ho, Op.operands] at h hx ⊢ <;> try exact h
    case load t x => rw [hx x (by simp)]; exact h
    case convert a b x => rw [hx x (by simp)]; exact h
    case slice t x lo hi mx => rw [hx x (by simp)]; exact h
    case fieldAddr t x k => rw [hx x (by simp)]; exact h
    case nilCheck x => rw [hx x (by simp)]; exact h
    case indexAddr t x i => rw [hx x (by simp)]; exact h
    case call c =>
      have hargs : ∀ x ∈ c.args.toList, ev env' x = ev s.env x := fun x hx' => hx x (by simp [Call.operands]; right; simpa using hx')
      cases hc : c.callee with
      | invoke r m => simp only [hc] at h ⊢; exact h
      | builtin b =>
        simp only [hc, Bool.or_eq_true] at h ⊢
        refine h.imp id fun h => List.all_eq_true.2 fun x hx' => ?_
        rw [hargs x hx']; exact List.all_eq_true.1 h x hx'
      | value f =>
        simp only [hc, Bool.or_eq_true, Bool.and_eq_true] at h ⊢
        refine h.imp id fun h => ⟨?_, List.all_eq_true.2 fun x hx' => ?_⟩
        · rw [hx f (by simp [Call.operands, hc])]; exact h.1
        · rw [hargs x hx']; exact List.all_eq_true.1 h.2 x hx'
  have sd : ∀ s'', stepD P C E n B T o s = some s'' → ∃ v u, (turns T o = false → u = []) ∧ (∀ p ∈ u, p.1 ∈ B) ∧ s'' = app s o v u ∧
      ∀ env' st', (∀ t ∈ o.looksAt ops.toArray, env' t = s.env t) → (turns T o = true → st' = s.st) → (turns T o = false → ∀ b, b ∉ B → st' b = s.st b) → stepD P C E n B T o ⟨env', st'⟩ = some (app ⟨env', st'⟩ o v u) := fun s'' h => by
    unfold stepD at h
    cases ht : turns T o with
    | true =>
      rw [ht] at h
      simp only [if_true] at h
      split at h
      case h_2 => cases h
      rename_i v u hop
      split at h
      case isFalse => cases h
      rename_i hall0
      have hall : u.all (fun p => B.contains p.1) = true := (Bool.and_eq_true .. ▸ hall0 : _ ∧ _).2
      have hfree : freeOk T o.op (ev s.env) = true := (Bool.and_eq_true .. ▸ hall0 : _ ∧ _).1
      refine ⟨v, u, fun h => (by cases h), fun p hp => by simpa using List.all_eq_true.1 hall p hp, ?_, fun env' st' he h1 _ => ?_⟩
      · unfold app
        cases hd : o.dst with
        | none => rw [hd] at h; simp only [Option.some.injEq] at h; exact h.symm
        | some d =>
          rw [hd] at h
          simp only at h
          split at h
          · simp only [Option.some.injEq] at h; exact h.symm
          · cases h
      · have := h1 rfl
        subst this
        unfold stepD app
        rw [ht]
        simp only [if_true]
        rw [opV_congr (ec env' he), hop, freeOk_congr (ec env' he)]
        simp only [hall, hfree, Bool.and_self, if_true]
        cases hd : o.dst with
        | none => rfl
        | some d =>
          rw [hd] at h
          simp only at h ⊢
          split at h
          · rename_i hdn; rw [if_pos hdn]
          · cases h
    | false =>
      rw [ht] at h
      simp only [Bool.false_eq_true, if_false] at h
      split at h
      case isFalse => cases h
      rename_i hr
      split at h
      case h_2 => cases h
      rename_i v hop
      refine ⟨v, [], fun _ => rfl, fun p hp => by simp at hp, ?_, fun env' st' he _ h2 => ?_⟩
      · unfold app
        cases hd : o.dst with
        | none => rw [hd] at h; simp only [Option.some.injEq] at h; exact h.symm
        | some d =>
          rw [hd] at h
          simp only at h
          split at h
          · simp only [Option.some.injEq] at h; exact h.symm
          · cases h
      · unfold stepD app
        rw [ht]
        simp only [Bool.false_eq_true, if_false, rc env' he hr, if_true]
        have hop2 : opV P C E o (ev env') s.st = some (v, []) := by rw [opV_congr (ec env' he)]; exact hop
        rw [opV_off hop2 (rc env' he hr) (h2 rfl)]
        simp only
        cases hd : o.dst with
        | none => rfl
        | some d =>
          rw [hd] at h
          simp only at h ⊢
          split at h
          · rename_i hdn; rw [if_pos hdn]; rfl
          · cases h
  have sp : ∀ s'', passV n o s = some s'' → s'' = app s o (.s undef) [] ∧ ∀ env' st', passV n o ⟨env', st'⟩ = some (app ⟨env', st'⟩ o (.s undef) []) := fun s'' h => by
    unfold passV at h
    unfold passV app
    cases hd : o.dst with
    | none =>
      rw [hd] at h
      simp only [Option.some.injEq] at h
      exact ⟨h.symm, fun env' st' => rfl⟩
    | some d =>
      rw [hd] at h
      simp only at h
      split at h
      case isFalse => cases h
      rename_i hdn
      simp only [Option.some.injEq] at h
      exact ⟨h.symm, fun env' st' => by simp [hdn, ups]⟩
  unfold stepN at h ⊢
  simp only [Bool.false_eq_true, if_false] at h ⊢
  cases hw : wants ops s.env o with
  | none => rw [hw] at h; cases h
  | some g =>
    rw [hw] at h
    cases g with
    | none =>
      obtain ⟨v, u, h1, h2, h3, h4⟩ := sd s' h
      exact ⟨v, u, h1, h2, h3, fun env' st' he a b => by simp only [wc env' he, hw]; exact h4 env' st' he a b⟩
    | some p =>
      obtain ⟨c, b⟩ := p
      simp only at h
      by_cases hcb : c = b
      · rw [if_pos hcb] at h
        obtain ⟨v, u, h1, h2, h3, h4⟩ := sd s' h
        exact ⟨v, u, h1, h2, h3, fun env' st' he a b => by simp only [wc env' he, hw, if_pos hcb]; exact h4 env' st' he a b⟩
      · rw [if_neg hcb] at h
        obtain ⟨h1, h2⟩ := sp s' h
        exact ⟨.s undef, [], fun _ => rfl, fun p hp => by simp at hp, h1, fun env' st' he _ _ => by simp only [wc env' he, hw, if_neg hcb]; exact h2 env' st'⟩

theorem app_st (s : S) (o : Oper) (v : V) (u : List (Nat × Blk)) : (app s o v u).st = ups s.st u := by unfold app; cases o.dst <;> rfl
theorem app_env (s : S) (o : Oper) (v : V) (u : List (Nat × Blk)) (t : Nat) (h : ∀ d, o.dst = some d → t ≠ d) : (app s o v u).env t = s.env t := by
  unfold app
  cases hd : o.dst with
  | none => rfl
  | some d => simp only [upd]; rw [if_neg (h d hd)]

theorem step_comm0 {ops : List Oper} {x y : Oper} (hap : x.apart ops.toArray y = true) (ht : ¬ (turns T x = true ∧ turns T y = true)) {s1 s2 : S} (h1 : stepN P C E n B T ops false x s = some s1) (h2 : stepN P C E n B T ops false y s1 = some s2) :
    ∃ s1', stepN P C E n B T ops false y s = some s1' ∧ stepN P C E n B T ops false x s1' = some s2 := by
  obtain ⟨a1, a2, a3⟩ := Oper.apart_spec hap
  obtain ⟨v, u, hv1, hv2, hv3, hv4⟩ := step_eff h1
  obtain ⟨v', u', hu1, hu2, hu3, hu4⟩ := step_eff h2
  have hst1 : s1.st = ups s.st u := by rw [hv3, app_st]
  have hy := hu4 s.env s.st (fun t htt => by rw [hv3]; exact (app_env s x v u t fun d hd e => a1 d hd (e ▸ htt)).symm)
    (fun hty => by
      have : turns T x = false := by cases hx : turns T x <;> simp_all
      rw [hst1, hv1 this]; rfl)
    (fun _ b hb => by rw [hst1]; exact (ups_off s.st hv2 b hb).symm)
  refine ⟨_, hy, ?_⟩
  have e0 : (⟨s.env, s.st⟩ : S) = s := rfl
  rw [e0]
  have hx := hv4 (app s y v' u').env (app s y v' u').st (fun t htt => app_env s y v' u' t fun d hd e => a3 d hd (e ▸ htt))
    (fun htx => by
      have : turns T y = false := by cases hy : turns T y <;> simp_all
      rw [app_st, hu1 this]; rfl)
    (fun _ b hb => by rw [app_st]; exact ups_off s.st hu2 b hb)
  have e1 : (⟨(app s y v' u').env, (app s y v' u').st⟩ : S) = app s y v' u' := rfl
  rw [e1] at hx
  rw [hx, hu3, hv3]
  congr 1
  have hst : ups (ups s.st u') u = ups (ups s.st u) u' := by
    cases hxt : turns T x with
    | false => rw [hv1 hxt]; rfl
    | true =>
      have : turns T y = false := by cases hy : turns T y <;> simp_all
      rw [hu1 this]; rfl
  unfold app
  cases hdx : x.dst with
  | none => cases hdy : y.dst <;> simp [hst]
  | some dx =>
    cases hdy : y.dst with
    | none => simp [hst]
    | some dy =>
      simp only [hst]
      rw [upd_comm s.env (fun e => a2 dx hdx (by rw [hdy, e])) v' v]

theorem step_free {ops : List Oper} {o : Oper} (ht : turns T o = true) (h : stepN P C E n B T ops false o s = some s') :
    ∃ v u, s' = app s o v u ∧
      (isAl T o = true → (∀ p ∈ u, o.dst = some p.1) ∧ ∀ env' st', (∀ t ∈ o.looksAt ops.toArray, env' t = s.env t) → (∀ d, o.dst = some d → st' d = s.st d) → stepN P C E n B T ops false o ⟨env', st'⟩ = some (app ⟨env', st'⟩ o v u)) ∧
      (isAp o = true → ∀ d, 100000 + d ∈ T → o.dst ≠ some d → (∀ p ∈ u, p.1 ≠ d) ∧ ∀ env' st', (∀ t ∈ o.looksAt ops.toArray, env' t = s.env t) → (∀ b, b ≠ d → st' b = s.st b) → stepN P C E n B T ops false o ⟨env', st'⟩ = some (app ⟨env', st'⟩ o v u)) := by
  have wc : ∀ env', (∀ t ∈ o.looksAt ops.toArray, env' t = s.env t) → wants ops env' o = wants ops s.env o := fun env' he => by
    unfold wants
    cases hg : o.guard with
    | none => rfl
    | some jb =>
      obtain ⟨j, b⟩ := jb
      simp only
      cases hj : (ops[j]?).bind (·.dst) with
      | none => rfl
      | some t =>
        simp only
        rw [he t (by
          unfold Oper.looksAt
          refine List.mem_append_right _ ?_
          simp [hg, hj])]
  have ec : ∀ env', (∀ t ∈ o.looksAt ops.toArray, env' t = s.env t) → ∀ x ∈ o.op.operands, ev env' x = ev s.env x := fun env' he x hx => by
    cases x with
    | tmp t => exact he t (List.mem_append_left _ (List.mem_filterMap.2 ⟨.tmp t, by simpa using hx, rfl⟩))
    | _ => rfl
  have sd : ∀ s'', stepD P C E n B T o s = some s'' → ∃ v u, s'' = app s o v u ∧ opV P C E o (ev s.env) s.st = some (v, u) ∧ freeOk T o.op (ev s.env) = true ∧
      ∀ env' st', (∀ t ∈ o.looksAt ops.toArray, env' t = s.env t) → opV P C E o (ev s.env) st' = some (v, u) → stepD P C E n B T o ⟨env', st'⟩ = some (app ⟨env', st'⟩ o v u) := fun s'' h => by
    unfold stepD at h
    rw [ht] at h
    simp only [if_true] at h
    split at h
    case h_2 => cases h
    rename_i v u hop
    split at h
    case isFalse => cases h
    rename_i hall0
    have hall : u.all (fun p => B.contains p.1) = true := (Bool.and_eq_true .. ▸ hall0 : _ ∧ _).2
    have hfree : freeOk T o.op (ev s.env) = true := (Bool.and_eq_true .. ▸ hall0 : _ ∧ _).1
    refine ⟨v, u, ?_, hop, hfree, fun env' st' he ho2 => ?_⟩
    · unfold app
      cases hd : o.dst with
      | none => rw [hd] at h; simp only [Option.some.injEq] at h; exact h.symm
      | some d =>
        rw [hd] at h
        simp only at h
        split at h
        · simp only [Option.some.injEq] at h; exact h.symm
        · cases h
    · unfold stepD app
      rw [ht]
      simp only [if_true]
      rw [opV_congr (ec env' he), ho2, freeOk_congr (ec env' he)]
      simp only [hall, hfree, Bool.and_self, if_true]
      cases hd : o.dst with
      | none => rfl
      | some d =>
        rw [hd] at h
        simp only at h ⊢
        split at h
        · rename_i hdn; rw [if_pos hdn]
        · cases h
  have sal : ∀ v u, isAl T o = true → opV P C E o (ev s.env) s.st = some (v, u) → (∀ p ∈ u, o.dst = some p.1) ∧ ∀ st', (∀ d, o.dst = some d → st' d = s.st d) → opV P C E o (ev s.env) st' = some (v, u) := fun v u hal hop => by
    unfold isAl at hal
    split at hal
    case h_2 => cases hal
    rename_i t d ho hd
    unfold opV at hop ⊢
    rw [ho, hd] at hop
    simp only [Option.getD_some] at hop
    obtain ⟨z, hz, he⟩ := Option.map_eq_some_iff.1 hop
    simp only [Prod.mk.injEq] at he
    obtain ⟨rfl, rfl⟩ := he
    refine ⟨fun p hp => ?_, fun st' hs => ?_⟩
    · simp only [List.mem_singleton] at hp; rw [hp, hd]
    · rw [ho, hd]
      simp only [Option.getD_some, hz, Option.map_some, hs d hd]
  have sap : ∀ v u, isAp o = true → freeOk T o.op (ev s.env) = true → opV P C E o (ev s.env) s.st = some (v, u) → ∀ d, 100000 + d ∈ T → o.dst ≠ some d → (∀ p ∈ u, p.1 ≠ d) ∧ ∀ st', (∀ b, b ≠ d → st' b = s.st b) → opV P C E o (ev s.env) st' = some (v, u) := fun v u hap hfr hop d hdT hdd => by
    unfold isAp at hap
    split at hap
    case h_2 => cases hap
    rename_i c d0 ho hd
    split at hap
    case h_2 => cases hap
    rename_i hc
    have hne : d0 ≠ d := fun e => hdd (by rw [hd, e])
    unfold freeOk at hfr
    have hf := List.all_eq_true.1 hfr _ hdT
    have hlt : decide (100000 + d < 100000) = false := by simp
    rw [ho, hlt] at hf
    simp only [hc, Bool.false_or, Nat.add_sub_cancel_left] at hf
    unfold opV at hop ⊢
    rw [ho, hd] at hop
    rw [ho, hd]
    simp only [hc, Option.isSome_some, if_true, Option.getD_some] at hop ⊢
    split at hop
    case h_2 => cases hop
    rename_i t1 t2 x y hty hxy
    split at hop
    case isFalse => cases hop
    rename_i htt
    rw [hxy] at hf
    have hx : d ∉ (ev s.env x).ref := by have := List.all_eq_true.1 hf x (by simp); simpa using this
    have hy : d ∉ (ev s.env y).ref := by have := List.all_eq_true.1 hf y (by simp); simpa using this
    refine ⟨fun p hp => (append_off (P := P) (t := t1) (st := s.st) (st' := s.st) hne hx hy (fun _ _ => rfl)).2 v u hop p hp, fun st' hs => ?_⟩
    rw [(append_off (P := P) (t := t1) hne hx hy hs).1]
    rw [if_pos htt]
    exact hop
  have sp : ∀ s'', passV n o s = some s'' → s'' = app s o (.s undef) [] ∧ ∀ env' st', passV n o ⟨env', st'⟩ = some (app ⟨env', st'⟩ o (.s undef) []) := fun s'' h => by
    unfold passV at h
    unfold passV app
    cases hd : o.dst with
    | none =>
      rw [hd] at h
      simp only [Option.some.injEq] at h
      exact ⟨h.symm, fun env' st' => rfl⟩
    | some d =>
      rw [hd] at h
      simp only at h
      split at h
      case isFalse => cases h
      rename_i hdn
      simp only [Option.some.injEq] at h
      exact ⟨h.symm, fun env' st' => by simp [hdn, ups]⟩
  have fin : ∀ s'', stepD P C E n B T o s = some s'' → (∀ env', (∀ t ∈ o.looksAt ops.toArray, env' t = s.env t) → ∀ st', stepN P C E n B T ops false o ⟨env', st'⟩ = stepD P C E n B T o ⟨env', st'⟩) → ∃ v u, s'' = app s o v u ∧
      (isAl T o = true → (∀ p ∈ u, o.dst = some p.1) ∧ ∀ env' st', (∀ t ∈ o.looksAt ops.toArray, env' t = s.env t) → (∀ d, o.dst = some d → st' d = s.st d) → stepN P C E n B T ops false o ⟨env', st'⟩ = some (app ⟨env', st'⟩ o v u)) ∧
      (isAp o = true → ∀ d, 100000 + d ∈ T → o.dst ≠ some d → (∀ p ∈ u, p.1 ≠ d) ∧ ∀ env' st', (∀ t ∈ o.looksAt ops.toArray, env' t = s.env t) → (∀ b, b ≠ d → st' b = s.st b) → stepN P C E n B T ops false o ⟨env', st'⟩ = some (app ⟨env', st'⟩ o v u)) := fun s'' h hN => by
    obtain ⟨v, u, e1, e2, e3, e4⟩ := sd s'' h
    refine ⟨v, u, e1, fun hal => ?_, fun hap d hdT hdd => ?_⟩
    · obtain ⟨p1, p2⟩ := sal v u hal e2
      exact ⟨p1, fun env' st' he hs => by rw [hN env' he st']; exact e4 env' st' he (p2 st' hs)⟩
    · obtain ⟨p1, p2⟩ := sap v u hap e3 e2 d hdT hdd
      exact ⟨p1, fun env' st' he hs => by rw [hN env' he st']; exact e4 env' st' he (p2 st' hs)⟩
  have hh := h
  unfold stepN at h
  simp only [Bool.false_eq_true, if_false] at h
  cases hw : wants ops s.env o with
  | none => rw [hw] at h; cases h
  | some g =>
    rw [hw] at h
    cases g with
    | none => exact fin s' h fun env' he st' => by unfold stepN; simp only [wc env' he, hw, Bool.false_eq_true, if_false]
    | some p =>
      obtain ⟨c, b⟩ := p
      simp only at h
      by_cases hcb : c = b
      · rw [if_pos hcb] at h
        exact fin s' h fun env' he st' => by unfold stepN; simp only [wc env' he, hw, if_pos hcb, Bool.false_eq_true, if_false]
      · rw [if_neg hcb] at h
        obtain ⟨h1, h2⟩ := sp s' h
        have hN : ∀ env' st', (∀ t ∈ o.looksAt ops.toArray, env' t = s.env t) → stepN P C E n B T ops false o ⟨env', st'⟩ = some (app ⟨env', st'⟩ o (.s undef) []) := fun env' st' he => by
          unfold stepN; simp only [wc env' he, hw, if_neg hcb]; exact h2 env' st'
        exact ⟨.s undef, [], h1, fun _ => ⟨fun p hp => by simp at hp, fun env' st' he _ => hN env' st' he⟩, fun _ d _ _ => ⟨fun p hp => by simp at hp, fun env' st' he _ => hN env' st' he⟩⟩
theorem ups_at {u : List (Nat × Blk)} : ∀ (st : Nat → Blk) (d : Nat), (∀ p ∈ u, p.1 ≠ d) → ups st u d = st d := by
  induction u with
  | nil => intro st d _; rfl
  | cons p u ih =>
    intro st d h
    obtain ⟨i, k⟩ := p
    simp only [ups]
    rw [ih _ d (fun q hq => h q (by simp [hq]))]
    simp only [upd]
    rw [if_neg (show ¬ d = i from fun e => h (i, k) (by simp) e.symm)]
theorem ups_in {u : List (Nat × Blk)} {d : Nat} : ∀ (st st' : Nat → Blk), (∀ p ∈ u, p.1 = d) → (∀ b, b ≠ d → ups st u b = st b) := fun st _ h b hb => by
  refine ups_at st b fun p hp e => hb ?_
  rw [← e, h p hp]
theorem ups_upd {u : List (Nat × Blk)} {d : Nat} {k : Blk} : ∀ (st : Nat → Blk), (∀ p ∈ u, p.1 ≠ d) → ups (upd st d k) u = upd (ups st u) d k := by
  induction u with
  | nil => intro st _; rfl
  | cons p u ih =>
    intro st h
    obtain ⟨i, k'⟩ := p
    simp only [ups]
    rw [upd_comm st (fun e => h (i, k') (by simp) e.symm), ih _ (fun q hq => h q (by simp [hq]))]
theorem ups_comm {u u' : List (Nat × Blk)} {d : Nat} (st : Nat → Blk) (h : ∀ p ∈ u, p.1 = d) (h' : ∀ p ∈ u', p.1 ≠ d) : ups (ups st u) u' = ups (ups st u') u := by
  induction u generalizing st with
  | nil => rfl
  | cons p u ih =>
    obtain ⟨i, k⟩ := p
    have : i = d := h (i, k) (by simp)
    subst this
    simp only [ups]
    rw [ih _ (fun q hq => h q (by simp [hq])), ups_upd _ h']
theorem step_comm {ops : List Oper} {x y : Oper} (hap : x.apart ops.toArray y = true) (ht : ¬ (turns T x = true ∧ turns T y = true ∧ freeP T x y = false)) {s1 s2 : S} (h1 : stepN P C E n B T ops false x s = some s1) (h2 : stepN P C E n B T ops false y s1 = some s2) :
    ∃ s1', stepN P C E n B T ops false y s = some s1' ∧ stepN P C E n B T ops false x s1' = some s2 := by
  by_cases hb : turns T x = true ∧ turns T y = true
  case neg => exact step_comm0 hap hb h1 h2
  obtain ⟨tx, ty⟩ := hb
  have hfp : freeP T x y = true := by
    cases c : freeP T x y with
    | true => rfl
    | false => exact absurd ⟨tx, ty, c⟩ ht
  obtain ⟨a1, a2, a3⟩ := Oper.apart_spec hap
  obtain ⟨v, u, hv3, hvA, hvP⟩ := step_free tx h1
  obtain ⟨v', u', hu3, huA, huP⟩ := step_free ty h2
  have hst1 : s1.st = ups s.st u := by rw [hv3, app_st]
  have hea : ∀ t ∈ y.looksAt ops.toArray, s.env t = s1.env t := fun t htt => by rw [hv3]; exact (app_env s x v u t fun d hd e => a1 d hd (e ▸ htt)).symm
  have heb : ∀ t ∈ x.looksAt ops.toArray, (app s y v' u').env t = s.env t := fun t htt => app_env s y v' u' t fun d hd e => a3 d hd (e ▸ htt)
  have done : stepN P C E n B T ops false y s = some (app s y v' u') → stepN P C E n B T ops false x (app s y v' u') = some (app (app s y v' u') x v u) → ups (ups s.st u') u = ups (ups s.st u) u' → ∃ s1', stepN P C E n B T ops false y s = some s1' ∧ stepN P C E n B T ops false x s1' = some s2 := fun hy hx hst => by
    refine ⟨_, hy, ?_⟩
    rw [hx, hu3, hv3]
    congr 1
    unfold app
    cases hdx : x.dst with
    | none => cases hdy : y.dst <;> simp [hst]
    | some dx =>
      cases hdy : y.dst with
      | none => simp [hst]
      | some dy =>
        simp only [hst]
        rw [upd_comm s.env (fun e => a2 dx hdx (by rw [hdy, e])) v' v]
  unfold freeP at hfp
  simp only [Bool.or_eq_true, Bool.and_eq_true] at hfp
  have alT : ∀ {o : Oper}, isAl T o = true → ∃ d, o.dst = some d ∧ 100000 + d ∈ T := fun {o} h => by
    unfold isAl at h
    split at h
    · rename_i t d _ hd; exact ⟨d, hd, by simpa using h⟩
    · cases h
  rcases hfp with ⟨hal, hp⟩ | ⟨hp, hal⟩
  · obtain ⟨d, hd, hdT⟩ := alT hal
    obtain ⟨p1, p2⟩ := hvA hal
    have p1' : ∀ p ∈ u, p.1 = d := fun p hp => by have := p1 p hp; rw [hd] at this; cases this; rfl
    obtain ⟨q1, q2⟩ := huP hp d hdT (a2 d hd)
    refine done (q2 s.env s.st hea fun b hb => by rw [hst1]; exact (ups_in s.st s.st p1' b hb).symm) (p2 _ _ heb fun d' hd' => ?_) (ups_comm s.st p1' q1).symm
    obtain rfl : d = d' := Option.some.inj (hd.symm.trans hd')
    show (app s y v' u').st d = s.st d
    rw [app_st]; exact ups_at s.st d q1
  · obtain ⟨d, hd, hdT⟩ := alT hal
    obtain ⟨p1, p2⟩ := huA hal
    have p1' : ∀ p ∈ u', p.1 = d := fun p hp => by have := p1 p hp; rw [hd] at this; cases this; rfl
    obtain ⟨q1, q2⟩ := hvP hp d hdT (fun e => a2 d e hd)
    refine done (p2 s.env s.st hea fun d' hd' => ?_) (q2 _ _ heb fun b hb => by show (app s y v' u').st b = s.st b; rw [app_st]; exact ups_in s.st s.st p1' b hb) (ups_comm s.st p1' q1)
    obtain rfl : d = d' := Option.some.inj (hd.symm.trans hd')
    rw [hst1]; exact (ups_at s.st d q1).symm

theorem bubble {ops : List Oper} {i : Nat} (hi : i + 1 ≠ ops.length ∨ True) : ∀ (l : List Nat) (s s2 : S) (r : List Nat), (∀ j ∈ l, i + 1 ≠ ops.length ∧ j + 1 ≠ ops.length ∧ (ops.getD j default).apart ops.toArray (ops.getD i default) = true ∧ ¬ (turns T (ops.getD j default) = true ∧ turns T (ops.getD i default) = true ∧ freeP T (ops.getD j default) (ops.getD i default) = false)) →
    runI P C E n B T ops (l ++ i :: r) s = some s2 → ∃ s1, stepI P C E n B T ops i s = some s1 ∧ runI P C E n B T ops (l ++ r) s1 = some s2
  | [], s, s2, r, _, h => by
    simp only [List.nil_append, runI] at h ⊢
    obtain ⟨s1, h1, h2⟩ := Option.bind_eq_some_iff.1 h
    exact ⟨s1, h1, h2⟩
  | j :: l, s, s2, r, hl, h => by
    simp only [List.cons_append, runI] at h
    obtain ⟨s1, h1, h2⟩ := Option.bind_eq_some_iff.1 h
    obtain ⟨s3, h3, h4⟩ := bubble hi l s1 s2 r (fun z hz => hl z (by simp [hz])) h2
    obtain ⟨b0, b1, b2, b3⟩ := hl j (by simp)
    have f1 : decide (j + 1 = ops.length) = false := by simpa using b1
    have f2 : decide (i + 1 = ops.length) = false := by simpa using b0
    unfold stepI at h1 h3
    rw [f1] at h1
    rw [f2] at h3
    obtain ⟨s4, h5, h6⟩ := step_comm b2 b3 h1 h3
    refine ⟨s4, by unfold stepI; rw [f2]; exact h5, ?_⟩
    simp only [List.cons_append, runI, stepI, f1, h6, Option.bind_some]
    exact h4

/-- a step of the reckoning, and the run's -/
theorem stepI_sound (hC : ∀ g sp, C g = some sp → Impl P g sp) (hE : EqOk P E) {ops : List Oper} {o : Oper} {i : Nat} (ho : ops[i]? = some o) (h : stepI P C E n B T ops i s = some s') (hr : Rel w0 I n s a w η) {K : Act → World → Prop} {Q : Exit → Act → World → Prop}
    (hK : ∀ η' a' w', Rel w0 I n s' a' w' η' → K a' w') : wpOp P ops.toArray Q i K a w := by
  have ho' : ops.toArray[i]? = some o := by simpa using ho
  have hgd : ops.getD i default = o := by rw [List.getD_eq_getElem?_getD, ho]; rfl
  unfold stepI at h
  rw [hgd] at h
  have goV : stepV P C E n o s = some s' → o.wp P a w K Q := fun h => op_sound hC hE hr h hK
  have goD : stepD P C E n B T o s = some s' → stepV P C E n o s = some s' := fun h => by
    unfold stepD at h
    unfold stepV
    split at h
    · split at h
      case h_2 => cases h
      rename_i v u hop
      split at h
      case isFalse => cases h
      rw [hop]
      exact h
    · split at h
      case isFalse => cases h
      split at h
      case h_2 => cases h
      rename_i v hop
      rw [hop]
      simpa [ups] using h
  have go : (if decide (i + 1 = ops.length) = true then stepV P C E n o s else stepD P C E n B T o s) = some s' → o.wp P a w K Q := fun h => by
    split at h
    · exact goV h
    · exact goV (goD h)
  have pass : passV n o s = some s' → K (a.put o.dst undef) w := fun h => by
    unfold passV at h
    cases hd : o.dst with
    | none => rw [hd] at h; simp only [Option.some.injEq] at h; subst h; exact hK η a w hr
    | some d =>
      rw [hd] at h
      simp only at h
      split at h
      · rename_i hdn
        simp only [Option.some.injEq] at h
        subst h
        exact hK η _ w (Rel.put (env := s.env) (st := s.st) hr (.s _) hdn)
      · cases h
  unfold wpOp
  simp only [ho']
  unfold stepN wants at h
  unfold Region.wanted
  cases hg : o.guard with
  | none =>
    rw [hg] at h
    simp only [if_true]
    exact .inl (go h)
  | some jb =>
    obtain ⟨j, b⟩ := jb
    rw [hg] at h
    simp only at h
    cases hj : (ops[j]?).bind (·.dst) with
    | none => rw [hj] at h; cases h
    | some t =>
      rw [hj] at h
      simp only at h
      cases he : s.env t <;> (rw [he] at h; try (cases h; done))
      rename_i v
      cases v <;> try (cases h; done)
      case tuple arr =>
        have hv := hr.env t
        rw [he] at hv
        have hv' := hv.s_inv
        have hy : yielded ops.toArray a.tmps j = none := by
          unfold yielded
          have : ((ops.toArray[j]?).bind (·.dst)) = some t := by simpa using hj
          rw [this]
          simp only [Option.bind_some]
          rw [Array.getD_eq_getD_getElem?] at hv'
          cases hq : a.tmps[t]? with
          | none => rfl
          | some q => rw [hq] at hv'; simp at hv'; subst hv'; rfl
        simp only [hy]
        simp only at h
        rw [if_neg (show ¬ (!b) = b by cases b <;> simp)] at h
        rw [if_neg (by simp)]
        exact pass h
      rename_i c
      have hv := hr.env t
      rw [he] at hv
      have hv' := hv.s_inv
      have hy : yielded ops.toArray a.tmps j = some c := by
        unfold yielded
        have : ((ops.toArray[j]?).bind (·.dst)) = some t := by simpa using hj
        rw [this]
        simp only [Option.bind_some]
        rw [Array.getD_eq_getD_getElem?] at hv'
        cases hq : a.tmps[t]? with
        | none => rw [hq] at hv'; simp [undef] at hv'
        | some q => rw [hq] at hv'; simp at hv'; subst hv'; rfl
      simp only [hy]
      simp only at h
      by_cases hcb : c = b
      · rw [if_pos hcb] at h
        subst hcb
        simp
        exact .inl (go h)
      · rw [if_neg hcb] at h
        rw [if_neg (by simpa using hcb)]
        exact pass h

/-- what is not listed yet, in the text's order -/
def rest (ops : List Oper) (listed : Array Bool) : List Nat := (List.range ops.length).filter fun i => !listed.getD i true

theorem rest_split {ops : List Oper} {listed : Array Bool} (hsz : listed.size = ops.length) {i : Nat} (hi : i ∈ rest ops listed) :
    ∃ l r, rest ops listed = l ++ i :: r ∧ (∀ j ∈ l, j < i) ∧ rest ops (listed.setIfInBounds i true) = l ++ r := by
  unfold rest at hi ⊢
  have hmem := List.mem_filter.1 hi
  have hlt : i < ops.length := by simpa using hmem.1
  have e : List.range ops.length = List.range i ++ i :: List.range' (i + 1) (ops.length - (i + 1)) := by
    rw [List.range_eq_range', List.range_eq_range']
    have h1 : ops.length = i + (1 + (ops.length - (i + 1))) := by omega
    conv => lhs; rw [h1]
    rw [← List.range'_append_1, ← List.range'_append_1]
    simp
  refine ⟨(List.range i).filter fun i => !listed.getD i true, (List.range' (i + 1) (ops.length - (i + 1))).filter fun i => !listed.getD i true, ?_, fun j hj => ?_, ?_⟩
  · rw [e, List.filter_append, List.filter_cons, if_pos hmem.2]
  · have := (List.mem_filter.1 hj).1
    simpa using this
  · have hset : (listed.setIfInBounds i true).getD i true = true := by
      rw [Array.getD_eq_getD_getElem?]
      simp [hsz, hlt]
    have hne : ∀ j, j ≠ i → (listed.setIfInBounds i true).getD j true = listed.getD j true := fun j hj => by
      simp [Array.getD_eq_getD_getElem?, Array.getElem?_setIfInBounds_ne (Ne.symm hj)]
    rw [e, List.filter_append, List.filter_cons, if_neg (by rw [hset]; simp)]
    congr 1
    · exact List.filter_congr fun j hj => by rw [hne j (by have := List.mem_range.1 hj; omega)]
    · exact List.filter_congr fun j hj => by
        rw [hne j (by have := List.mem_range'_1.1 hj; omega)]

theorem mem_rest {ops : List Oper} {listed : Array Bool} {i : Nat} : i ∈ rest ops listed ↔ i < ops.length ∧ listed.getD i true = false := by
  unfold rest
  rw [List.mem_filter]
  simp

theorem ready_spec {ops : List Oper} {listed : Array Bool} {i : Nat} (h : i ∈ Region.ready .any ops.toArray listed) :
    i ∈ rest ops listed ∧ ∃ o, ops[i]? = some o ∧ ∀ e ∈ o.after, Region.binds .any e = true → listed.getD e.on false = true := by
  unfold Region.ready at h
  obtain ⟨h1, h2⟩ := List.mem_filter.1 h
  simp only [Bool.and_eq_true, Bool.not_eq_true'] at h2
  have hlt : i < ops.length := by simpa using h1
  refine ⟨mem_rest.2 ⟨hlt, h2.1⟩, ops[i], List.getElem?_eq_getElem hlt, fun e he hb => ?_⟩
  have h3 := h2.2
  have hg : ops.toArray[i]? = some ops[i] := by simp [hlt]
  rw [hg] at h3
  simp only [Option.map_some, Option.getD_some] at h3
  have := Array.all_eq_true'.1 h3 e he
  simpa [hb] using this

theorem low_spec {ops : List Oper} (h : lowOk ops.toArray = true) {j : Nat} (hj : j < ops.length) : ∀ e ∈ ops[j].after, Region.binds .any e = true → e.on < j := by
  intro e he hb
  unfold lowOk at h
  have h2 := List.all_eq_true.1 h j (by simpa using hj)
  have hg : ops.toArray[j]? = some ops[j] := by simp [hj]
  rw [hg] at h2
  simp only at h2
  have := Array.all_eq_true'.1 h2 e he
  simpa [hb] using this

/-- all that must stand ahead of what is listed is listed -/
def Shut (ops : List Oper) (listed : Array Bool) : Prop := ∀ j o, ops[j]? = some o → listed.getD j false = true → ∀ e ∈ o.after, Region.binds .any e = true → listed.getD e.on false = true

theorem anc_listed {ops : List Oper} {listed : Array Bool} {A : List (List Nat)} (hA : ancOk A ops.toArray = true) (hsh : Shut ops listed) : ∀ (m j i : Nat), j < m → j < ops.length → i ∈ A.getD j [] → (∀ o, ops[j]? = some o → ∀ e ∈ o.after, Region.binds .any e = true → listed.getD e.on false = true) → listed.getD i false = true := by
  intro m
  induction m with
  | zero => intro j i hj; omega
  | succ m ih =>
    intro j i hjm hj hi hed
    unfold ancOk at hA
    have h1 := List.all_eq_true.1 hA j (by simpa using hj)
    have h2 := List.all_eq_true.1 h1 i hi
    have hg : ops.toArray[j]? = some ops[j] := by simp [hj]
    rw [hg] at h2
    simp only at h2
    obtain ⟨e, he, hc⟩ := Array.any_eq_true'.1 h2
    simp only [Bool.and_eq_true, Bool.or_eq_true, beq_iff_eq, decide_eq_true_eq] at hc
    obtain ⟨⟨hb, hlt⟩, hc⟩ := hc
    have hl := hed ops[j] (List.getElem?_eq_getElem hj) e he hb
    rcases hc with hc | hc
    · rw [← hc]; exact hl
    · have hon : e.on < ops.length := by omega
      exact ih e.on i (by omega) hon (by simpa using hc) fun o ho e' he' hb' => hsh e.on o ho hl e' he' hb'

theorem ready_some {ops : List Oper} {listed : Array Bool} (hsz : listed.size = ops.length) (hok : lowOk ops.toArray = true) (h : Region.ready .any ops.toArray listed = []) : rest ops listed = [] := by
  refine Classical.byContradiction fun hne => ?_
  have key : ∀ m, ∀ i, i ∈ rest ops listed → i < m → False := by
    intro m
    induction m with
    | zero => intro i _ hi; omega
    | succ m ih =>
      intro i hi him
      rcases Nat.lt_or_ge i m with h' | h'
      · exact ih i hi h'
      · have him' : i = m := by omega
        subst him'
        obtain ⟨hlt, hl⟩ := mem_rest.1 hi
        have : i ∈ Region.ready .any ops.toArray listed := by
          unfold Region.ready
          refine List.mem_filter.2 ⟨by simpa using hlt, ?_⟩
          have hg : ops.toArray[i]? = some ops[i] := by simp [hlt]
          rw [hg]
          simp only [Option.map_some, Option.getD_some, Bool.and_eq_true, Bool.not_eq_true']
          refine ⟨hl, Array.all_eq_true'.2 fun e he => ?_⟩
          cases hb : Region.binds .any e with
          | false => rfl
          | true =>
            have hlow := low_spec hok hlt e he hb
            simp only [Bool.not_true, Bool.false_or]
            have hnot : ¬ e.on ∈ rest ops listed := fun hin => ih e.on hin hlow
            rw [mem_rest] at hnot
            have hel : e.on < ops.length := by omega
            have : listed.getD e.on true ≠ false := fun h => hnot ⟨hel, h⟩
            have hls : e.on < listed.size := by omega
            simp [Array.getD_eq_getD_getElem?, hls] at this ⊢
            exact this
        rw [h] at this
        cases this
  obtain ⟨i, hi⟩ : ∃ i, i ∈ rest ops listed := List.exists_mem_of_ne_nil _ hne
  exact key (i + 1) i hi (by omega)

theorem any_sound (hC : ∀ g sp, C g = some sp → Impl P g sp) (hE : EqOk P E) (ops : List Oper) (hok : drawOk T ops.toArray = true) {K : S → Prop} {Q : Exit → Act → World → Prop}
    (hK : ∀ s' a' w' η', K s' → Rel w0 I n s' a' w' η' → Q .normal a' w') :
    ∀ (fuel : Nat) (listed : Array Bool) (s sf : S) (a : Act) (w : World) (η : Nat → Value), listed.size = ops.length → Shut ops listed → (rest ops listed).length ≤ fuel → runI P C E n B T ops (rest ops listed) s = some sf → K sf → Rel w0 I n s a w η →
      wpAny P .any ops.toArray Q fuel listed a w
  | 0, listed, s, sf, a, w, η, hsz, hsh, hlen, hrun, hk, hr => by
    have h0 : rest ops listed = [] := List.eq_nil_of_length_eq_zero (by omega)
    refine ⟨List.eq_nil_iff_forall_not_mem.2 fun i hi => ?_, ?_⟩
    · have := (ready_spec hi).1
      rw [h0] at this
      cases this
    · rw [h0] at hrun
      simp only [runI, Option.some.injEq] at hrun
      subst hrun
      exact hK s a w η hk hr
  | fuel + 1, listed, s, sf, a, w, η, hsz, hsh, hlen, hrun, hk, hr => by
    have hok' := hok
    unfold drawOk at hok'
    simp only [Bool.and_eq_true] at hok'
    obtain ⟨⟨hlow, hanc⟩, hpairs⟩ := hok'
    refine ⟨fun hnil => ?_, fun i hi => ?_⟩
    · have h0 := ready_some hsz hlow hnil
      rw [h0] at hrun
      simp only [runI, Option.some.injEq] at hrun
      subst hrun
      exact hK s a w η hk hr
    · obtain ⟨hmem, o, ho, hedges⟩ := ready_spec hi
      obtain ⟨l, r, hsplit, hlowl, hset⟩ := rest_split hsz hmem
      have hilt := (mem_rest.1 hmem).1
      have hoi : ops.getD i default = o := by rw [List.getD_eq_getElem?_getD, ho]; rfl
      rw [hsplit] at hrun
      obtain ⟨s1, h1, h2⟩ := bubble (.inr trivial) l s sf _ (fun j hj => by
        have hji := hlowl j hj
        have hjlt : j < ops.length := by omega
        have hjm : j ∈ rest ops listed := by rw [hsplit]; simp [hj]
        have hp := List.all_eq_true.1 (List.all_eq_true.1 hpairs i (by simpa using hilt)) j (by simpa using hji)
        unfold pairOk at hp
        have g1 : ops.toArray[j]? = some ops[j] := by simp [hjlt]
        have g2 : ops.toArray[i]? = some o := by simpa using ho
        rw [g1, g2] at hp
        have hgd : ops.getD j default = ops[j] := by rw [List.getD_eq_getElem?_getD, List.getElem?_eq_getElem hjlt]; rfl
        rw [hgd, hoi]
        simp only [Bool.or_eq_true, Bool.and_eq_true, decide_eq_true_eq, Bool.not_eq_true'] at hp
        rcases hp with hp | hp
        · exfalso
          have hl := anc_listed hanc hsh (i + 1) i j (by omega) hilt (by simpa using hp) (fun o' ho' => by rw [ho] at ho'; cases ho'; exact hedges)
          have hu := (mem_rest.1 hjm).2
          have hls : j < listed.size := by omega
          simp [Array.getD_eq_getD_getElem?, hls] at hl hu
          rw [hl] at hu; cases hu
        · obtain ⟨⟨hp1, hp2⟩, hp3⟩ := hp
          have hp1' : i + 1 < ops.length := by simpa using hp1
          refine ⟨by omega, by omega, hp3, fun hh => ?_⟩
          rw [hh.1, hh.2.1, hh.2.2] at hp2
          cases hp2) hrun
      refine stepI_sound hC hE ho h1 hr fun η' a' w' hr' => ?_
      refine any_sound hC hE ops hok hK fuel (listed.setIfInBounds i true) s1 sf a' w' η' (by simpa using hsz) ?_ ?_ ?_ hk hr'
      · intro j o' hj hl e he hb
        have grow : ∀ q, listed.getD q false = true → (listed.setIfInBounds i true).getD q false = true := fun q hq => by
          by_cases hqi : q = i
          · subst hqi
            have hls : q < listed.size := by omega
            simp [Array.getD_eq_getD_getElem?, hls]
          · simp [Array.getD_eq_getD_getElem?, Array.getElem?_setIfInBounds_ne (Ne.symm hqi)] at hq ⊢
            exact hq
        by_cases hji : j = i
        · subst hji
          rw [ho] at hj
          cases hj
          exact grow _ (hedges e he hb)
        · refine grow _ (hsh j o' hj ?_ e he hb)
          simp [Array.getD_eq_getD_getElem?, Array.getElem?_setIfInBounds_ne (Ne.symm hji)] at hl ⊢
          exact hl
      · rw [hset]
        have : (rest ops listed).length = (l ++ i :: r).length := by rw [hsplit]
        simp only [List.length_append, List.length_cons] at this ⊢
        omega
      · rw [hset]; exact h2

theorem region_sound (hm : P.follows .mixedOrders = true) (hC : ∀ g sp, C g = some sp → Impl P g sp) (hE : EqOk P E) {id : Nat} {ops : Array Oper} (hok : drawOk T ops = true) {K : S → Prop} {Q : Exit → Act → World → Prop}
    (hK : ∀ s' a' w' η', K s' → Rel w0 I n s' a' w' η' → Q .normal a' w') (h : awpOpsD P C E n B T ops.toList K ops.toList s) (hr : Rel w0 I n s a w η) : (Code.region id ops true).wp P Q a w := by
  refine wp_region_any hm ?_
  obtain ⟨sf, h1, h2⟩ := run_of ops.toList 0 s rfl h
  have hr' : Rel w0 I n ⟨s.env, s.st⟩ a w.drew η := (Rel.quiet (env := s.env) (st := s.st) (w' := w.drew) hr rfl rfl rfl (Nat.le_refl _) (fun _ _ => rfl)).1
  have e0 : rest ops.toList (Array.replicate ops.size false) = List.range' 0 ops.toList.length := by
    rw [← List.range_eq_range']
    unfold rest
    refine List.filter_eq_self.2 fun i hi => ?_
    have : i < ops.size := by simpa using hi
    simp [Array.getD_eq_getD_getElem?, this]
  have := any_sound (w0 := w0) (I := I) (n := n) (B := B) (T := T) hC hE ops.toList (by simpa using hok) hK ops.size (Array.replicate ops.size false) s sf a w.drew η (by simp) (by
    intro j o _ hl
    exfalso
    rcases Nat.lt_or_ge j ops.size with h' | h' <;> simp [Array.getD_eq_getD_getElem?, h'] at hl) (by rw [e0]; simp) (by rw [e0]; exact h1) h2 hr'
  simpa using this
end

end Go.Proofs.Ytbmgaebhcomjaaa
