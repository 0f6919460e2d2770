/-
Operations of the plain reckoning stand for those in memory: reads, writes, new variables. No condition.
-/
import Derived.Test.YtbmgaebhcomjaaaAbA
namespace Go.Proofs.Ytbmgaebhcomjaaa
set_option linter.unusedSimpArgs false
set_option linter.unusedVariables false

section
variable {P : Program} {w0 w : World} {I : Ow} {n : Nat} {s : S} {env : Nat → V} {st : Nat → Blk} {a : Act} {η : Nat → Value}

theorem szOf_info {t k : Nat} (h : szOf P t = some k) : ∃ i, P.info? t = some i ∧ i.size = k := by
  unfold szOf at h
  obtain ⟨i, hi, rfl⟩ := Option.map_eq_some_iff.1 h
  exact ⟨i, hi, rfl⟩
theorem run_sizeOf' {t k : Nat} (h : szOf P t = some k) (w : World) : (sizeOf t).run P w = .ok k w := by
  obtain ⟨i, hi, rfl⟩ := szOf_info h
  simp [sizeOf, typeInfo, hi]
theorem run_isAgg' {t : Nat} {b : Bool} (h : isAggB P t = some b) (w : World) : (isAgg t).run P w = .ok b w := by
  unfold isAggB at h
  obtain ⟨d, hd, rfl⟩ := Option.map_eq_some_iff.1 h
  cases d <;> simp [isAgg, run_underlying hd]

theorem loadC_PW {R : Value → V → Prop} (hR : ∀ us l, PW R us l → R (.agg us.toArray) (.agg l)) {ag : Bool} {k : Nat} {us : List Value} {l : List V} {x : V} (h : loadC ag k l = some x) (hp : PW R us l) :
    ∃ v, R v x ∧ (if ag then k ≤ us.length ∧ v = .agg (us.take k).toArray else us[0]? = some v) := by
  unfold loadC at h
  cases ag with
  | true =>
    simp only [if_true] at h ⊢
    split at h
    · rename_i hk
      simp only [Option.some.injEq] at h
      subst h
      exact ⟨_, hR _ _ (hp.take k), by rw [hp.1]; exact hk, rfl⟩
    · cases h
  | false =>
    simp only [Bool.false_eq_true, if_false] at h ⊢
    rw [List.head?_eq_getElem?] at h
    obtain ⟨u, hu, hr⟩ := hp.get h
    exact ⟨u, hr, hu⟩

theorem run_loadAt' {t k : Nat} {ag : Bool} {g o : Nat} {us : List Value} {v : Value} (hs : szOf P t = some k) (ha : isAggB P t = some ag) (hc : ∀ j u, us[j]? = some u → w.cell? ⟨g, o + j, none⟩ = some u)
    (hv : if ag then k ≤ us.length ∧ v = .agg (us.take k).toArray else us[0]? = some v) : (Instr.loadAt t (.pointer (some ⟨g, o, none⟩))).run P w = .ok v w := by
  cases ag with
  | true =>
    simp only [if_true] at hv
    obtain ⟨hk, rfl⟩ := hv
    have hl : (us.take k).length = k := by rw [List.length_take]; omega
    have := run_loadCells_list (P := P) w ⟨g, o, none⟩ (us.take k) (fun j u hu => by
      rw [Addr.add_lit]
      rw [List.getElem?_take] at hu
      split at hu
      · exact hc j u hu
      · cases hu)
    rw [hl] at this
    simp [Instr.loadAt, Instr.sureAddr, loadVar, run_isAgg' ha, run_sizeOf' hs, this]
  | false =>
    simp only [Bool.false_eq_true, if_false] at hv
    have := hc 0 v hv
    simp only [Nat.add_zero] at this
    simp [Instr.loadAt, Instr.sureAddr, loadVar, run_isAgg' ha, this]

theorem rv_agg {c : Cx} (us : List Value) (l : List V) (h : PW (RV c) us l) : RV c (.agg us.toArray) (.agg l) := .agg us l h.1 h.2
theorem rc_agg {w : World} {own fresh : Nat → Prop} {k : Bool} (us : List Value) (l : List V) (h : PW (RC w own fresh k) us l) : RC w own fresh k (.agg us.toArray) (.agg l) := .agg k us l h.1 h.2

/-- an element's cells in a row -/
theorem flat_at {sz : Nat} : ∀ (l : List V) (i : Nat) (x : V), (∀ x ∈ l, x.cells.length = sz) → l[i]? = some x → ((flat l).drop (i * sz)).take sz = x.cells
  | [], i, x, _, h => by simp at h
  | y :: l, 0, x, hu, h => by
    simp at h; subst h
    have := hu y (by simp)
    simp only [flat, List.flatMap_cons, Nat.zero_mul, List.drop_zero]
    rw [← this]; simp
  | y :: l, i + 1, x, hu, h => by
    have hy := hu y (by simp)
    have := flat_at l i x (fun z hz => hu z (by simp [hz])) (by simpa using h)
    simp only [flat, List.flatMap_cons]
    rw [show (i + 1) * sz = y.cells.length + i * sz by rw [hy, Nat.add_mul]; omega, ← List.drop_drop, List.drop_left]
    exact this
theorem flat_len {sz : Nat} : ∀ (l : List V), (∀ x ∈ l, x.cells.length = sz) → (flat l).length = l.length * sz
  | [], _ => by simp [flat]
  | y :: l, hu => by
    have := flat_len l (fun z hz => hu z (by simp [hz]))
    simp only [flat, List.flatMap_cons, List.length_append, List.length_cons] at *
    rw [this, hu y (by simp), Nat.add_mul]; omega

theorem flat_app (l m : List V) : flat (l ++ m) = flat l ++ flat m := by simp [flat]

theorem flat_sub {sz : Nat} (l : List V) (off len : Nat) (hu : ∀ x ∈ l, x.cells.length = sz) (hc : off + len ≤ l.length) : flat ((l.drop off).take len) = ((flat l).drop (off * sz)).take (len * sz) := by
  have hll : ((l.drop off).take len).length = len := by rw [List.length_take, List.length_drop]; omega
  have e1 : flat l = flat (l.take off) ++ (flat ((l.drop off).take len) ++ flat ((l.drop off).drop len)) := by
    rw [← flat_app, ← flat_app, List.take_append_drop, List.take_append_drop]
  have l1 : (flat (l.take off)).length = off * sz := by
    rw [flat_len _ (fun x hx => hu x (List.mem_of_mem_take hx)), List.length_take]; congr 1; omega
  have l2 : (flat ((l.drop off).take len)).length = len * sz := by
    rw [flat_len _ (fun x hx => hu x (List.mem_of_mem_drop (List.mem_of_mem_take hx))), hll]
  rw [e1, ← l1, List.drop_left, ← l2, List.take_left]

theorem flat_s (l : List V) (h : ∀ x ∈ l, x.cells = [x]) : flat l = l := by
  induction l with
  | nil => rfl
  | cons y l ih =>
    have := ih fun x hx => h x (by simp [hx])
    simp only [flat, List.flatMap_cons] at *
    rw [this, h y (by simp)]; rfl
theorem flat_u8 (l : List V) (h : ∀ x ∈ l, ∃ m, x = .s (.int .u8 m)) : flat l = l := flat_s l fun x hx => by obtain ⟨m, rfl⟩ := h x hx; rfl

theorem flat_spl {sz : Nat} : ∀ (l : List V) (i : Nat) (el el' : V) (off : Nat) (m : List V), (∀ x ∈ l, x.cells.length = sz) → l[i]? = some el → el'.cells = spl el.cells off m → off + m.length ≤ sz → flat (l.set i el') = spl (flat l) (i * sz + off) m
  | [], i, el, el', off, m, _, h, _, _ => by simp at h
  | y :: l, 0, el, el', off, m, hu, h, he, hf => by
    simp at h; subst h
    have hy := hu y (by simp)
    simp only [List.set_cons_zero, flat, List.flatMap_cons, Nat.zero_mul, Nat.zero_add, he, spl]
    rw [List.take_append_of_le_length (by omega), List.drop_append_of_le_length (by omega)]
    simp
  | y :: l, i + 1, el, el', off, m, hu, h, he, hf => by
    have hy := hu y (by simp)
    have := flat_spl l i el el' off m (fun z hz => hu z (by simp [hz])) (by simpa using h) he hf
    rw [List.set_cons_succ]
    simp only [flat, List.flatMap_cons] at this ⊢
    rw [this]
    unfold spl
    have e1 : (i + 1) * sz + off = y.cells.length + (i * sz + off) := by rw [hy, Nat.add_mul]; omega
    have e2 : (i + 1) * sz + off + m.length = y.cells.length + (i * sz + off + m.length) := by omega
    rw [e2, e1, List.take_append, List.drop_append]
    simp [List.take_of_length_le, List.drop_eq_nil_of_le]

theorem one_cells {x : V} (h : x.one = true) : x.unfr.cells = [x.unfr] := by
  cases x with
  | s v => cases v <;> first | rfl | simp [V.one, Value.oneCell'] at h
  | agg l => simp [V.one] at h
  | tup l => simp [V.one] at h
  | own => simp [V.one] at h
  | obx => simp [V.one] at h
  | io => simp [V.one] at h
  | _ => rfl

theorem one_cells0 {x : V} (h : x.one = true) : x.cells = [x] := by
  cases x with
  | s v => cases v <;> first | rfl | simp [V.one, Value.oneCell'] at h
  | agg l => simp [V.one] at h
  | tup l => simp [V.one] at h
  | own => simp [V.one] at h
  | obx => simp [V.one] at h
  | io => simp [V.one] at h
  | _ => rfl

theorem withCells_spl {el : V} {off : Nat} {m : List V} (hf : off + m.length ≤ el.cells.length) (h1 : ∀ y ∈ m, y.cells = [y]) : (withCells el (spl el.cells off m)).cells = spl el.cells off m := by
  have key : ∀ e : V, off + m.length ≤ 1 → e.cells = [e] → ((spl [e] off m).headD (.s undef)).cells = spl [e] off m := fun e hf he => by
    cases m with
    | nil =>
      have : off = 0 ∨ off = 1 := by simp at hf; omega
      rcases this with rfl | rfl <;> simp [spl, he]
    | cons y m =>
      have h0 : off = 0 := by simp at hf; omega
      have hm : m = [] := List.eq_nil_of_length_eq_zero (by simp at hf; omega)
      subst h0; subst hm
      simp [spl, h1 y (by simp)]
  cases el with
  | agg l => rfl
  | s v => cases v <;> first | rfl | exact key _ (by simpa [V.cells] using hf) rfl
  | _ => exact key _ (by simpa [V.cells] using hf) rfl

theorem row_cells {c : Cx} {v0 : Value} {sz e : Nat} {l : List V} (h : RowV c v0 sz e l) {i : Nat} {x : V} (hx : l[i]? = some x) {g o n cap : Nat} (hv : v0 = .slice (some ⟨g, o, none⟩) n cap) :
    ∃ us, PW (RV c) us x.cells ∧ ∀ j u, us[j]? = some u → c.w.cell? ⟨g, o + (i * sz + j), none⟩ = some u := by
  obtain ⟨us, ho, hu, hp, h1⟩ := h
  have hf := flat_at l i x hu hx
  refine ⟨(us.drop (i * sz)).take sz, by rw [← hf]; exact (hp.drop _).take _, fun j u hj => ?_⟩
  rw [List.getElem?_take] at hj
  split at hj
  · rw [List.getElem?_drop] at hj
    have hn : l.length = n := by
      rcases ho.val with ⟨h', _⟩ | ⟨g', o', cap', h', _⟩
      · rw [h'] at hv; cases hv
      · rw [h'] at hv; cases hv; rfl
    rw [hn] at ho
    exact ho.cells hv _ _ hj
  · cases hj

theorem RowV.val {c : Cx} {v0 : Value} {sz e : Nat} {l : List V} (h : RowV c v0 sz e l) :
    (v0 = .slice none 0 0 ∧ l = []) ∨ ∃ g o cap, v0 = .slice (some ⟨g, o, none⟩) l.length cap ∧ l.length ≤ cap := by
  obtain ⟨us, ho, hu, hp, h1⟩ := h
  rcases ho.val with ⟨h1, h2⟩ | ⟨g, o, cap, h1, h2⟩
  · exact .inl ⟨h1, List.eq_nil_of_length_eq_zero h2⟩
  · exact .inr ⟨g, o, cap, h1, h2⟩
theorem RowR.val {own fresh : Nat → Prop} {v0 : Value} {sz e : Nat} {l : List V} (h : RowR w own fresh v0 sz e l) :
    (v0 = .slice none 0 0 ∧ l = []) ∨ ∃ g o cap, v0 = .slice (some ⟨g, o, none⟩) l.length cap ∧ l.length ≤ cap := by
  obtain ⟨us, ho, hu, hp, h1⟩ := h
  rcases ho.val with ⟨h1, h2⟩ | ⟨g, o, cap, h1, h2⟩
  · exact .inl ⟨h1, List.eq_nil_of_length_eq_zero h2⟩
  · exact .inr ⟨g, o, cap, h1, h2⟩

theorem load_sound (h : Rel w0 I n s a w η) {t : TypeId} {x y : V} {v : Value} (hx : loadV P s.st t x = some y) (hv : RV (cx w0 I s.st w η) v x) :
    ∃ u, (Instr.loadAt t v).run P w = .ok u w ∧ RV (cx w0 I s.st w η) u y := by
  unfold loadV at hx
  obtain ⟨k, hk, hx1⟩ := Option.bind_eq_some_iff.1 hx
  obtain ⟨ag, ha, hx2⟩ := Option.bind_eq_some_iff.1 hx1
  clear hx hx1
  have hx := hx2
  clear hx2
  cases x with
  | ptr b ver off =>
    obtain ⟨cs, hb, hx3⟩ := Option.bind_eq_some_iff.1 hx
    clear hx
    have hx := hx3
    obtain ⟨_, _, hl, g, o, cur, e, hη, hg, hp⟩ := look_box h hb
    obtain ⟨_, _, hp2⟩ := hv.ptr_inv
    obtain ⟨g', o', h1, rfl⟩ := hp2 _ hl
    rw [hη] at h1
    simp only [Value.pointer.injEq, Option.some.injEq, Addr.mk.injEq] at h1
    obtain ⟨rfl, rfl, _⟩ := h1
    obtain ⟨u, hr, hu⟩ := loadC_PW rv_agg hx (hp.drop off)
    refine ⟨u, run_loadAt' hk ha (fun j u hj => ?_) hu, hr⟩
    simp only [List.getElem?_drop, List.getElem?_take] at hj
    split at hj
    · simp only [World.cell?, hg]
      simpa [Nat.add_assoc] using hj
    · cases hj
  | rp b ver sz i off =>
    obtain ⟨⟨sz', e, l⟩, hb, hx3⟩ := Option.bind_eq_some_iff.1 hx
    clear hx
    simp only at hx3
    split at hx3
    · rename_i hsz
      subst hsz
      obtain ⟨el, hel, hx⟩ := Option.bind_eq_some_iff.1 hx3
      obtain ⟨_, _, hl, hrow⟩ := look_any h hb
      obtain ⟨_, _, hp2⟩ := hv.rp_inv
      obtain ⟨g, o, m, cap, h1, rfl⟩ := hp2 _ hl
      obtain ⟨us, hp, hc⟩ := row_cells hrow hel h1
      obtain ⟨u, hr, hu⟩ := loadC_PW rv_agg hx (hp.drop off)
      refine ⟨u, run_loadAt' hk ha (fun j u hj => ?_) hu, hr⟩
      rw [List.getElem?_drop] at hj
      have := hc _ _ hj
      rw [show o + (i * sz' + off) + j = o + (i * sz' + (off + j)) by omega]
      exact this
    · cases hx3
  | ept l =>
    cases hv.ept_inv with
    | ept us l g o hl he hr =>
      obtain ⟨x0, hx0, rfl⟩ := Option.map_eq_some_iff.1 hx
      obtain ⟨u, hr', hu⟩ := loadC_PW rc_agg hx0 ⟨hl, he⟩
      refine ⟨u, run_loadAt' hk ha (fun j u hj => ?_) hu, hr'.rvu⟩
      rcases hr with rfl | ⟨_, hc⟩
      · simp at hj
      · exact hc j u hj
  | s _ => simp at hx
  | agg _ => simp at hx
  | tup _ => simp at hx
  | lst _ _ _ => simp at hx
  | sw _ _ _ => simp at hx
  | sp _ _ _ _ _ => simp at hx
  | bp _ _ _ _ => simp at hx
  | fn _ _ => simp at hx
  | own _ _ _ => simp at hx
  | obx _ => simp at hx
  | io _ _ _ => simp at hx

/-- a new variable at place d -/
theorem Rel.new (h : Rel w0 I n ⟨env, st⟩ a w η) {d e : Nat} {us : List Value} {cs : List V} (hp : PW (RV (cx w0 I st w η)) us cs) :
    ∃ η', Rel w0 I n ⟨env, ups st [(d, ⟨(st d).ver + 1, .box cs⟩)]⟩ a (w.alloc (.cells us.toArray e)) η' ∧
      RV (cx w0 I (ups st [(d, ⟨(st d).ver + 1, .box cs⟩)]) (w.alloc (.cells us.toArray e)) η') (.pointer (some ⟨w.heap.size, 0, none⟩)) (.ptr d ((st d).ver + 1) 0) := by
  have hnew : (w.alloc (.cells us.toArray e)).heap[w.heap.size]? = some (.cells us.toArray e (0, 0)) := heap_alloc_new w _
  have hst : ups st [(d, ⟨(st d).ver + 1, .box cs⟩)] = upd st d ⟨(st d).ver + 1, .box cs⟩ := rfl
  refine ⟨upd η d (.pointer (some ⟨w.heap.size, 0, none⟩)), ?_⟩
  rw [hst]
  obtain ⟨h2, hle⟩ := h.step (st' := upd st d ⟨(st d).ver + 1, .box cs⟩) (w' := w.alloc (.cells us.toArray e)) (η' := upd η d (.pointer (some ⟨w.heap.size, 0, none⟩))) (fun b => b = d)
    rfl rfl rfl (by simp) (fun b hb => by simp [upd, hb]) (fun b hb => by subst hb; simp [upd]) (fun b hb _ => by subst hb; simp [upd])
    (fun g hg hne => absurd (heap_alloc_old w _ hg) hne)
    (fun b g hb _ hg => by subst hb; simp [upd, blkOf] at hg; omega)
    (fun b b' g hb hb' _ _ _ _ => hb.trans hb'.symm)
    (fun hle b hb _ => by
      subst hb
      simp only [upd, if_pos]
      refine ⟨_, 0, _, e, rfl, hnew, ?_⟩
      have : (us.drop 0).take cs.length = us := by rw [← hp.1]; simp
      simp only [List.drop_zero] at this ⊢
      rw [this]
      exact hp.imp fun u x hx => hx.mono hle)
  refine ⟨h2, ?_⟩
  refine .ptr d _ 0 _ ⟨_, rfl⟩ (by simp [cx, upd]) fun v0 hv0 => ?_
  simp [cx, upd, Cont.live] at hv0
  subst hv0
  exact ⟨_, 0, rfl, rfl⟩

theorem putRow_spec {c c' : Cont} {i off sz : Nat} {ys : List V} (h : putRow c i off ys = some (sz, c')) :
    ∃ e l el, c.live = true ∧ (match c with | .row sz e l => some (sz, e, l) | .rowV sz e l => some (sz, e, l) | _ => none) = some (sz, e, l) ∧ l[i]? = some el ∧ off + ys.length ≤ el.cells.length ∧
      ((c = .row sz e l ∧ V.cloL true ys = true ∧ c' = .row sz e (l.set i (withCells el (spl el.cells off (V.unfrL ys))))) ∨ c' = .rowV sz e (l.set i (withCells el (spl el.cells off ys)))) := by
  unfold putRow at h
  split at h
  · obtain ⟨el, hel, h2⟩ := Option.bind_eq_some_iff.1 h
    split at h2
    case isFalse => cases h2
    rename_i hfit
    split at h2
    · rename_i hclo
      simp only [Option.some.injEq, Prod.mk.injEq] at h2
      obtain ⟨rfl, rfl⟩ := h2
      exact ⟨_, _, el, rfl, rfl, hel, hfit, .inl ⟨rfl, hclo, rfl⟩⟩
    · simp only [Option.some.injEq, Prod.mk.injEq] at h2
      obtain ⟨rfl, rfl⟩ := h2
      exact ⟨_, _, el, rfl, rfl, hel, hfit, .inr rfl⟩
  · obtain ⟨el, hel, h2⟩ := Option.bind_eq_some_iff.1 h
    split at h2
    case isFalse => cases h2
    rename_i hfit
    simp only [Option.some.injEq, Prod.mk.injEq] at h2
    obtain ⟨rfl, rfl⟩ := h2
    exact ⟨_, _, el, rfl, rfl, hel, hfit, .inr rfl⟩
  · cases h

theorem store_sound (h : Rel w0 I n ⟨env, st⟩ a w η) {t : TypeId} {x y : V} {v u : Value} {us : List (Nat × Blk)} (hx : storeV P st t x y = some us) (hv : RV (cx w0 I st w η) v x) (hu : RV (cx w0 I st w η) u y) :
    ∃ w', (Instr.storeAt t v u).run P w = .ok () w' ∧ Rel w0 I n ⟨env, ups st us⟩ a w' η := by
  unfold storeV at hx
  obtain ⟨k, hk, hx⟩ := Option.bind_eq_some_iff.1 hx
  split at hx
  case isFalse => cases hx
  rename_i hone
  obtain ⟨hlen, hall⟩ := hone
  have hpy := hu.cells
  have h1 : ∀ z ∈ u.cells.toList, z.oneCell' = true := fun z hz => by
    obtain ⟨i, hi⟩ := List.getElem?_of_mem hz
    obtain ⟨xx, hxx, hr⟩ := hpy.getl hi
    exact hr.one (List.all_eq_true.1 hall xx (List.mem_of_getElem? hxx))
  have hsz : u.cells.size = k := by rw [← hlen, ← hpy.1]; simp
  cases x with
  | ptr b ver off =>
    obtain ⟨cs, hb, hx⟩ := Option.bind_eq_some_iff.1 hx
    split at hx
    case isFalse => cases hx
    rename_i hfit
    simp only [Option.some.injEq] at hx
    subst hx
    obtain ⟨hver, hcont, hl, g, o, cur, e, hη, hg, hp⟩ := look_box h hb
    obtain ⟨_, _, hp2⟩ := hv.ptr_inv
    obtain ⟨g', o', h1', rfl⟩ := hp2 _ hl
    rw [hη] at h1'
    simp only [Value.pointer.injEq, Option.some.injEq, Addr.mk.injEq] at h1'
    obtain ⟨rfl, rfl, _⟩ := h1'
    have hcl : cs.length ≤ cur.size - o := by
      have := hp.1
      simp only [List.length_take, List.length_drop, Array.length_toList] at this
      omega
    have hul : u.cells.toList.length = k := by simpa using hsz
    have hfit2 : o + off + 0 + u.cells.toList.length ≤ cur.size ∨ k = 0 := by omega
    rcases Nat.eq_zero_or_pos cs.length with h0 | hpos
    · -- nothing to store
      have hk0 : k = 0 := by omega
      have hu0 : u.cells.toList = [] := List.eq_nil_of_length_eq_zero (by omega)
      have hy0 : y.cells = [] := List.eq_nil_of_length_eq_zero (by omega)
      refine ⟨w, ?_, ?_⟩
      · simp [Instr.storeAt, Instr.sureAddr, storeVar, run_sizeOf' hk, hsz, hu0, storeCells]
      · have hc0 : cs = [] := List.eq_nil_of_length_eq_zero h0
        have : ups st [(b, ⟨ver, .box (spl cs off y.cells)⟩)] = st := by
          funext j
          simp only [ups, upd]
          split
          · rename_i hj
            subst hj
            rw [hc0, hy0]
            have e1 : spl ([] : List V) off [] = [] := by simp [spl]
            rw [e1]
            cases hst : st j with
            | mk ver' c' =>
              simp only at hver hcont
              rw [hst] at hver hcont
              simp only at hver hcont
              rw [hver, hcont, hc0]
          · rfl
        rw [this]; exact h
    · have hfit3 : o + off + 0 + u.cells.toList.length ≤ cur.size := by omega
      have hst := run_storeCells_at P g (o + off) e u.cells.toList 0 cur w hg hfit3 h1
      refine ⟨w.setRow g (cur.toList.take (o + off + 0) ++ u.cells.toList ++ cur.toList.drop (o + off + 0 + u.cells.toList.length)).toArray, ?_, ?_⟩
      · simp only [Instr.storeAt, Instr.sureAddr, storeVar, Sem.run_bind, Sem.run_pure, Result.andThen_ok, run_sizeOf' hk, hsz]
        simp [hst]
      · refine (h.step (st' := ups st [(b, ⟨ver, .box (spl cs off y.cells)⟩)]) (w' := w.setRow g (cur.toList.take (o + off + 0) ++ u.cells.toList ++ cur.toList.drop (o + off + 0 + u.cells.toList.length)).toArray) (η' := η) (fun j => j = b) rfl rfl rfl (by simp) (fun j hj => by simp [ups, upd, hj]) (fun j hj => by subst hj; simp only [ups, upd, if_pos]; simp only at hver; omega)
          (fun j hj _ => by subst hj; right; exact ⟨rfl, by simp only at hcont; rw [hcont]; rfl⟩)
          (fun g' _ hne => ⟨b, rfl, by simp only at hcont; rw [hcont]; rfl, by
            rw [hη]
            by_cases hgg : g' = g
            · subst hgg; rfl
            · exact absurd (setRow_other w g g' _ hgg) hne⟩)
          (fun j g' hj _ hg' => .inr ⟨b, rfl, by simp only at hcont; rw [hcont]; rfl, by subst hj; exact hg'⟩)
          (fun j j' g' hj hj' _ _ _ _ => hj.trans hj'.symm)
          (fun hle j hj _ => ?_)).1
        subst hj
        simp only [ups, upd, if_pos]
        refine ⟨g, o, _, e, hη, setRow_heap w g cur _ e _ hg, ?_⟩
        have hp' := (hp.imp fun u x hx => hx.mono hle).spl (hpy.imp fun u x hx => hx.mono hle) off
        have hln : (spl cs off y.cells).length = cs.length := by
          simp only [spl, List.length_append, List.length_take, List.length_drop]; omega
        rw [hln]
        have : (((cur.toList.take (o + off + 0) ++ u.cells.toList ++ cur.toList.drop (o + off + 0 + u.cells.toList.length)).toArray.toList.drop o).take cs.length) =
            ((cur.toList.drop o).take cs.length).take off ++ u.cells.toList ++ ((cur.toList.drop o).take cs.length).drop (off + u.cells.toList.length) := by
          have hcs : cur.toList.length = cur.size := by simp
          apply List.ext_getElem?
          intro i
          simp only [List.getElem?_take, List.getElem?_drop, List.getElem?_append, List.length_append, List.length_take, List.length_drop, hcs, Nat.add_zero]
          by_cases hi : i < cs.length
          · by_cases h1 : i < off
            · have a1 : o + i < min (o + off) cur.size + u.cells.toList.length := by omega
              have a2 : o + i < min (o + off) cur.size := by omega
              have a3 : i < min off (min cs.length (cur.size - o)) + u.cells.toList.length := by omega
              have a4 : i < min off (min cs.length (cur.size - o)) := by omega
              have a5 : o + i < o + off := by omega
              simp only [hi, h1, a1, a2, a3, a4, a5, if_true]
            · by_cases h2 : i < off + u.cells.toList.length
              · have a1 : o + i < min (o + off) cur.size + u.cells.toList.length := by omega
                have a2 : ¬ o + i < min (o + off) cur.size := by omega
                have a3 : i < min off (min cs.length (cur.size - o)) + u.cells.toList.length := by omega
                have a4 : ¬ i < min off (min cs.length (cur.size - o)) := by omega
                have a5 : o + i - min (o + off) cur.size = i - min off (min cs.length (cur.size - o)) := by omega
                simp only [hi, a1, a2, a3, a4, a5, if_true, if_false]
              · have a1 : ¬ o + i < min (o + off) cur.size + u.cells.toList.length := by omega
                have a3 : ¬ i < min off (min cs.length (cur.size - o)) + u.cells.toList.length := by omega
                have a5 : o + off + u.cells.toList.length + (o + i - (min (o + off) cur.size + u.cells.toList.length)) = o + i := by omega
                have a6 : off + u.cells.toList.length + (i - (min off (min cs.length (cur.size - o)) + u.cells.toList.length)) = i := by omega
                simp only [hi, a1, a3, a5, a6, if_true, if_false]
          · have a3 : ¬ i < min off (min cs.length (cur.size - o)) + u.cells.toList.length := by omega
            have a6 : ¬ off + u.cells.toList.length + (i - (min off (min cs.length (cur.size - o)) + u.cells.toList.length)) < cs.length := by omega
            simp only [hi, a3, a6, if_false]
        rw [this]
        exact hp'
  | rp b ver sz i off =>
    simp only at hx
    split at hx
    case isFalse => cases hx
    rename_i hver
    obtain ⟨⟨sz', c'⟩, hput, hx2⟩ := Option.bind_eq_some_iff.1 hx
    clear hx
    split at hx2
    case isFalse => cases hx2
    rename_i hss
    simp only at hss
    subst hss
    simp only [Option.some.injEq] at hx2
    subst hx2
    obtain ⟨e, l, el, hlive, hany, hel, hfit, hc'⟩ := putRow_spec hput
    have hany' : rowAny st b ver = some (sz', e, l) := by unfold rowAny; rw [if_pos hver]; exact hany
    obtain ⟨_, _, hl, hrow⟩ := look_any h hany'
    obtain ⟨_, _, hp2⟩ := hv.rp_inv
    obtain ⟨g, o, m, cap, hη, rfl⟩ := hp2 _ hl
    obtain ⟨us0, ho, hun, hpw, hone1⟩ := hrow
    have hm : m = l.length := by
      rcases ho.val with ⟨h', _⟩ | ⟨g', o', cap', h', _⟩
      · rw [h'] at hη; cases hη
      · rw [h'] at hη; cases hη; rfl
    subst hm
    rcases ho.2 with ⟨h', _⟩ | ⟨g', o', cap', cur, fz, h', hg, hfz, hnc, hcm, hsize, htake⟩
    · rw [h'] at hη; cases hη
    rw [h'] at hη
    cases hη
    have hi : i < l.length := (List.getElem?_eq_some_iff.1 hel).1
    have helsz : el.cells.length = sz' := hun el (List.mem_of_getElem? hel)
    have hul : u.cells.toList.length = k := by simpa using hsz
    have hrange : i * sz' + off + k ≤ l.length * sz' := by
      have := Nat.mul_le_mul_right sz' (show i + 1 ≤ l.length by omega)
      rw [Nat.add_mul] at this
      omega
    have hcapsz : l.length * sz' ≤ cap * sz' := Nat.mul_le_mul_right _ hnc
    have hst := run_storeCells_h P g (o + (i * sz' + off)) e fz u.cells.toList 0 cur w hg hfz (by omega) h1
    simp only [Nat.add_zero] at hst
    have husl : us0.length = l.length * sz' := ho.1
    have hput2 := OwnRow.put (w := w) (g := g) (o := o) (cap := cap) (cur := cur) (fz := fz) (e := e) (sz := sz') (n := l.length) (us := us0) husl hg hfz hnc hcm hsize htake (k := i * sz' + off) (m := l.length) (vs := u.cells.toList) (by omega) hnc (Nat.le_refl _) (by omega) (.inl rfl)
    refine ⟨w.setRow g (cur.toList.take (o + (i * sz' + off)) ++ u.cells.toList ++ cur.toList.drop (o + (i * sz' + off) + u.cells.toList.length)).toArray, ?_, ?_⟩
    · simp only [Instr.storeAt, Instr.sureAddr, storeVar, Sem.run_bind, Sem.run_pure, Result.andThen_ok, run_sizeOf' hk, hsz]
      simp [hst]
    · refine (h.step (st' := ups st [(b, ⟨ver, c'⟩)]) (w' := w.setRow g (cur.toList.take (o + (i * sz' + off)) ++ u.cells.toList ++ cur.toList.drop (o + (i * sz' + off) + u.cells.toList.length)).toArray) (η' := η) (fun j => j = b) rfl rfl rfl (by simp) (fun j hj => by simp [ups, upd, hj]) (fun j hj => by subst hj; simp only [ups, upd, if_pos]; omega)
          (fun j hj _ => by subst hj; right; exact ⟨rfl, hlive⟩)
          (fun g' _ hne => ⟨b, rfl, hlive, by
            rw [h']
            by_cases hgg : g' = g
            · subst hgg; rfl
            · exact absurd (setRow_other w g g' _ hgg) hne⟩)
          (fun j g' hj _ hg' => .inr ⟨b, rfl, hlive, by subst hj; exact hg'⟩)
          (fun j j' g' hj hj' _ _ _ _ => hj.trans hj'.symm)
          (fun hle j hj _ => ?_)).1
      subst hj
      simp only [ups, upd, if_pos]
      have hnew1 : ∀ z ∈ us0.take (i * sz' + off) ++ u.cells.toList ++ us0.drop (i * sz' + off + u.cells.toList.length), z.oneCell' = true := by
        intro z hz
        rcases List.mem_append.1 hz with hz | hz
        · rcases List.mem_append.1 hz with hz | hz
          · exact hone1 z (List.mem_of_mem_take hz)
          · exact h1 z hz
        · exact hone1 z (List.mem_of_mem_drop hz)
      have hnewu : ∀ (ys : List V), ys.length = y.cells.length → (∀ z ∈ ys, z.cells = [z]) → ∀ x ∈ l.set i (withCells el (spl el.cells off ys)), x.cells.length = sz' := by
        intro ys hys hy1 x hx
        rcases List.mem_or_eq_of_mem_set hx with hx | rfl
        · exact hun x hx
        · rw [withCells_spl (by omega) hy1]
          simp only [spl, List.length_append, List.length_take, List.length_drop]; omega
      have hm1 : ∀ z ∈ V.unfrL y.cells, z.cells = [z] := fun z hz => by
        rw [unfrL_map] at hz
        obtain ⟨z', hz', rfl⟩ := List.mem_map.1 hz
        exact one_cells (List.all_eq_true.1 hall z' hz')
      have hm0 : ∀ z ∈ y.cells, z.cells = [z] := fun z hz => one_cells0 (List.all_eq_true.1 hall z hz)
      rcases hc' with ⟨hcr, hclo, rfl⟩ | rfl
      · have hB := h.blk j hlive
        simp only at hB
        rw [hcr] at hB
        obtain ⟨us1, ho1, _, hpw1, _⟩ := hB
        have hus : us1 = us0 := by
          rcases ho1.2 with ⟨h'', _⟩ | ⟨g2, o2, cap2, cur2, fz2, h2, hg2, _, _, _, _, htake2⟩
          · rw [h''] at h'; cases h'
          · rw [h2] at h'; cases h'
            have hg3 : w.heap[g]? = some (.cells cur2 e fz2) := hg2
            have hg4 := hg3.symm.trans hg
            cases hg4
            rw [← htake2, ← htake]
        subst hus
        have hpy2 : PW (RC w (cx w0 I st w η).own (cx w0 I st w η).fresh true) u.cells.toList (V.unfrL y.cells) := by
          refine ⟨by rw [unfrL_len]; exact hpy.1, fun j v z hv hz => ?_⟩
          rw [unfrL_get] at hz
          obtain ⟨z', hz', rfl⟩ := Option.map_eq_some_iff.1 hz
          exact ((hpy.2 j v z' hv hz').clo (cloL_get hclo hz')).unfr
        have hfs := flat_spl l i el _ off (V.unfrL y.cells) hun hel (withCells_spl (by rw [unfrL_len]; omega) hm1) (by rw [unfrL_len]; omega)
        refine ⟨_, by rw [List.length_set, h']; exact hput2, hnewu _ (unfrL_len _) hm1, ?_, hnew1⟩
        rw [hfs]
        refine (PW.spl hpw1 hpy2 _).imp fun u x hx => ?_
        have := hx.mono hle.cells; rw [← hle.fresh] at this; exact this
      · have hfs := flat_spl l i el _ off y.cells hun hel (withCells_spl (by omega) hm0) (by omega)
        refine ⟨_, by rw [List.length_set, h']; exact hput2, hnewu _ rfl hm0, ?_, hnew1⟩
        rw [hfs]
        exact (PW.spl hpw hpy _).imp fun u x hx => hx.mono hle
  | s _ => simp at hx
  | agg _ => simp at hx
  | tup _ => simp at hx
  | lst _ _ _ => simp at hx
  | sw _ _ _ => simp at hx
  | sp _ _ _ _ _ => simp at hx
  | bp _ _ _ _ => simp at hx
  | ept _ => simp at hx
  | fn _ _ => simp at hx
  | own _ _ _ => simp at hx
  | obx _ => simp at hx
  | io _ _ _ => simp at hx
end

end Go.Proofs.Ytbmgaebhcomjaaa
