/-
Operations of the plain reckoning stand for those in memory: rows written out. No condition.
-/
import Derived.Test.YtkfmecmmbnehjaaGreatAbA
import Derived.Test.YtkfmecmmbnehjaaGreatLib
/-
Operations of the plain reckoning stand for those in memory: reads, writes, new variables. No condition.
-/
namespace Go.Proofs.YtkfmecmmbnehjaaGreat
set_option linter.unusedSimpArgs false
set_option linter.unusedVariables false

section
variable {P : Program} {w0 w : World} {I : Ow} {n : Nat} {s : S} {env : Nat → V} {st : Nat → Blk} {a : Act} {η : Nat → Value}

theorem szOf_info {t k : Nat} (h : szOf P t = some k) : ∃ i, P.info? t = some i ∧ i.size = k := by
  unfold szOf at h
  obtain ⟨i, hi, rfl⟩ := Option.map_eq_some_iff.1 h
  exact ⟨i, hi, rfl⟩
theorem run_sizeOf' {t k : Nat} (h : szOf P t = some k) (w : World) : (sizeOf t).run P w = .ok k w := by
  obtain ⟨i, hi, rfl⟩ := szOf_info h
  simp [sizeOf, typeInfo, hi]
theorem run_isAgg' {t : Nat} {b : Bool} (h : isAggB P t = some b) (w : World) : (isAgg t).run P w = .ok b w := by
  unfold isAggB at h
  obtain ⟨d, hd, rfl⟩ := Option.map_eq_some_iff.1 h
  cases d <;> simp [isAgg, run_underlying hd]

theorem loadC_PW {R : Value → V → Prop} (hR : ∀ us l, PW R us l → R (.agg us.toArray) (.agg l)) {ag : Bool} {k : Nat} {us : List Value} {l : List V} {x : V} (h : loadC ag k l = some x) (hp : PW R us l) :
    ∃ v, R v x ∧ (if ag then k ≤ us.length ∧ v = .agg (us.take k).toArray else us[0]? = some v) := by
  unfold loadC at h
  cases ag with
  | true =>
    simp only [if_true] at h ⊢
    split at h
    · rename_i hk
      simp only [Option.some.injEq] at h
      subst h
      exact ⟨_, hR _ _ (hp.take k), by rw [hp.1]; exact hk, rfl⟩
    · cases h
  | false =>
    simp only [Bool.false_eq_true, if_false] at h ⊢
    rw [List.head?_eq_getElem?] at h
    obtain ⟨u, hu, hr⟩ := hp.get h
    exact ⟨u, hr, hu⟩

theorem run_loadAt' {t k : Nat} {ag : Bool} {g o : Nat} {us : List Value} {v : Value} (hs : szOf P t = some k) (ha : isAggB P t = some ag) (hc : ∀ j u, us[j]? = some u → w.cell? ⟨g, o + j, none⟩ = some u)
    (hv : if ag then k ≤ us.length ∧ v = .agg (us.take k).toArray else us[0]? = some v) : (Instr.loadAt t (.pointer (some ⟨g, o, none⟩))).run P w = .ok v w := by
  cases ag with
  | true =>
    simp only [if_true] at hv
    obtain ⟨hk, rfl⟩ := hv
    have hl : (us.take k).length = k := by rw [List.length_take]; omega
    have := run_loadCells_list (P := P) w ⟨g, o, none⟩ (us.take k) (fun j u hu => by
      rw [Addr.add_lit]
      rw [List.getElem?_take] at hu
      split at hu
      · exact hc j u hu
      · cases hu)
    rw [hl] at this
    simp [Instr.loadAt, Instr.sureAddr, loadVar, run_isAgg' ha, run_sizeOf' hs, this]
  | false =>
    simp only [Bool.false_eq_true, if_false] at hv
    have := hc 0 v hv
    simp only [Nat.add_zero] at this
    simp [Instr.loadAt, Instr.sureAddr, loadVar, run_isAgg' ha, this]

theorem rv_agg {c : Cx} (us : List Value) (l : List V) (h : PW (RV c) us l) : RV c (.agg us.toArray) (.agg l) := .agg us l h.1 h.2
theorem rc_agg {w : World} {own fresh : Nat → Prop} {k : Bool} (us : List Value) (l : List V) (h : PW (RC w own fresh k) us l) : RC w own fresh k (.agg us.toArray) (.agg l) := .agg k us l h.1 h.2

/-- an element's cells in a row -/
theorem flat_at {sz : Nat} : ∀ (l : List V) (i : Nat) (x : V), (∀ x ∈ l, x.cells.length = sz) → l[i]? = some x → ((flat l).drop (i * sz)).take sz = x.cells
  | [], i, x, _, h => by simp at h
  | y :: l, 0, x, hu, h => by
    simp at h; subst h
    have := hu y (by simp)
    simp only [flat, List.flatMap_cons, Nat.zero_mul, List.drop_zero]
    rw [← this]; simp
  | y :: l, i + 1, x, hu, h => by
    have hy := hu y (by simp)
    have := flat_at l i x (fun z hz => hu z (by simp [hz])) (by simpa using h)
    simp only [flat, List.flatMap_cons]
    rw [show (i + 1) * sz = y.cells.length + i * sz by rw [hy, Nat.add_mul]; omega, ← List.drop_drop, List.drop_left]
    exact this
theorem flat_len {sz : Nat} : ∀ (l : List V), (∀ x ∈ l, x.cells.length = sz) → (flat l).length = l.length * sz
  | [], _ => by simp [flat]
  | y :: l, hu => by
    have := flat_len l (fun z hz => hu z (by simp [hz]))
    simp only [flat, List.flatMap_cons, List.length_append, List.length_cons] at *
    rw [this, hu y (by simp), Nat.add_mul]; omega

theorem flat_app (l m : List V) : flat (l ++ m) = flat l ++ flat m := by simp [flat]

theorem flat_sub {sz : Nat} (l : List V) (off len : Nat) (hu : ∀ x ∈ l, x.cells.length = sz) (hc : off + len ≤ l.length) : flat ((l.drop off).take len) = ((flat l).drop (off * sz)).take (len * sz) := by
  have hll : ((l.drop off).take len).length = len := by rw [List.length_take, List.length_drop]; omega
  have e1 : flat l = flat (l.take off) ++ (flat ((l.drop off).take len) ++ flat ((l.drop off).drop len)) := by
    rw [← flat_app, ← flat_app, List.take_append_drop, List.take_append_drop]
  have l1 : (flat (l.take off)).length = off * sz := by
    rw [flat_len _ (fun x hx => hu x (List.mem_of_mem_take hx)), List.length_take]; congr 1; omega
  have l2 : (flat ((l.drop off).take len)).length = len * sz := by
    rw [flat_len _ (fun x hx => hu x (List.mem_of_mem_drop (List.mem_of_mem_take hx))), hll]
  rw [e1, ← l1, List.drop_left, ← l2, List.take_left]

theorem flat_s (l : List V) (h : ∀ x ∈ l, x.cells = [x]) : flat l = l := by
  induction l with
  | nil => rfl
  | cons y l ih =>
    have := ih fun x hx => h x (by simp [hx])
    simp only [flat, List.flatMap_cons] at *
    rw [this, h y (by simp)]; rfl
theorem flat_u8 (l : List V) (h : ∀ x ∈ l, ∃ m, x = .s (.int .u8 m)) : flat l = l := flat_s l fun x hx => by obtain ⟨m, rfl⟩ := h x hx; rfl

theorem flat_spl {sz : Nat} : ∀ (l : List V) (i : Nat) (el el' : V) (off : Nat) (m : List V), (∀ x ∈ l, x.cells.length = sz) → l[i]? = some el → el'.cells = spl el.cells off m → off + m.length ≤ sz → flat (l.set i el') = spl (flat l) (i * sz + off) m
  | [], i, el, el', off, m, _, h, _, _ => by simp at h
  | y :: l, 0, el, el', off, m, hu, h, he, hf => by
    simp at h; subst h
    have hy := hu y (by simp)
    simp only [List.set_cons_zero, flat, List.flatMap_cons, Nat.zero_mul, Nat.zero_add, he, spl]
    rw [List.take_append_of_le_length (by omega), List.drop_append_of_le_length (by omega)]
    simp
  | y :: l, i + 1, el, el', off, m, hu, h, he, hf => by
    have hy := hu y (by simp)
    have := flat_spl l i el el' off m (fun z hz => hu z (by simp [hz])) (by simpa using h) he hf
    rw [List.set_cons_succ]
    simp only [flat, List.flatMap_cons] at this ⊢
    rw [this]
    unfold spl
    have e1 : (i + 1) * sz + off = y.cells.length + (i * sz + off) := by rw [hy, Nat.add_mul]; omega
    have e2 : (i + 1) * sz + off + m.length = y.cells.length + (i * sz + off + m.length) := by omega
    rw [e2, e1, List.take_append, List.drop_append]
    simp [List.take_of_length_le, List.drop_eq_nil_of_le]

theorem one_cells {x : V} (h : x.one = true) : x.unfr.cells = [x.unfr] := by
  cases x with
  | s v => cases v <;> first | rfl | simp [V.one, Value.oneCell'] at h
  | agg l => simp [V.one] at h
  | tup l => simp [V.one] at h
  | own => simp [V.one] at h
  | obx => simp [V.one] at h
  | io => simp [V.one] at h
  | _ => rfl

theorem one_cells0 {x : V} (h : x.one = true) : x.cells = [x] := by
  cases x with
  | s v => cases v <;> first | rfl | simp [V.one, Value.oneCell'] at h
  | agg l => simp [V.one] at h
  | tup l => simp [V.one] at h
  | own => simp [V.one] at h
  | obx => simp [V.one] at h
  | io => simp [V.one] at h
  | _ => rfl

theorem withCells_spl {el : V} {off : Nat} {m : List V} (hf : off + m.length ≤ el.cells.length) (h1 : ∀ y ∈ m, y.cells = [y]) : (withCells el (spl el.cells off m)).cells = spl el.cells off m := by
  have key : ∀ e : V, off + m.length ≤ 1 → e.cells = [e] → ((spl [e] off m).headD (.s undef)).cells = spl [e] off m := fun e hf he => by
    cases m with
    | nil =>
      have : off = 0 ∨ off = 1 := by simp at hf; omega
      rcases this with rfl | rfl <;> simp [spl, he]
    | cons y m =>
      have h0 : off = 0 := by simp at hf; omega
      have hm : m = [] := List.eq_nil_of_length_eq_zero (by simp at hf; omega)
      subst h0; subst hm
      simp [spl, h1 y (by simp)]
  cases el with
  | agg l => rfl
  | s v => cases v <;> first | rfl | exact key _ (by simpa [V.cells] using hf) rfl
  | _ => exact key _ (by simpa [V.cells] using hf) rfl

theorem row_cells {c : Cx} {v0 : Value} {sz e : Nat} {l : List V} (h : RowV c v0 sz e l) {i : Nat} {x : V} (hx : l[i]? = some x) {g o n cap : Nat} (hv : v0 = .slice (some ⟨g, o, none⟩) n cap) :
    ∃ us, PW (RV c) us x.cells ∧ ∀ j u, us[j]? = some u → c.w.cell? ⟨g, o + (i * sz + j), none⟩ = some u := by
  obtain ⟨us, ho, hu, hp, h1⟩ := h
  have hf := flat_at l i x hu hx
  refine ⟨(us.drop (i * sz)).take sz, by rw [← hf]; exact (hp.drop _).take _, fun j u hj => ?_⟩
  rw [List.getElem?_take] at hj
  split at hj
  · rw [List.getElem?_drop] at hj
    have hn : l.length = n := by
      rcases ho.val with ⟨h', _⟩ | ⟨g', o', cap', h', _⟩
      · rw [h'] at hv; cases hv
      · rw [h'] at hv; cases hv; rfl
    rw [hn] at ho
    exact ho.cells hv _ _ hj
  · cases hj

theorem RowV.val {c : Cx} {v0 : Value} {sz e : Nat} {l : List V} (h : RowV c v0 sz e l) :
    (v0 = .slice none 0 0 ∧ l = []) ∨ ∃ g o cap, v0 = .slice (some ⟨g, o, none⟩) l.length cap ∧ l.length ≤ cap := by
  obtain ⟨us, ho, hu, hp, h1⟩ := h
  rcases ho.val with ⟨h1, h2⟩ | ⟨g, o, cap, h1, h2⟩
  · exact .inl ⟨h1, List.eq_nil_of_length_eq_zero h2⟩
  · exact .inr ⟨g, o, cap, h1, h2⟩
theorem RowR.val {own fresh : Nat → Prop} {v0 : Value} {sz e : Nat} {l : List V} (h : RowR w own fresh v0 sz e l) :
    (v0 = .slice none 0 0 ∧ l = []) ∨ ∃ g o cap, v0 = .slice (some ⟨g, o, none⟩) l.length cap ∧ l.length ≤ cap := by
  obtain ⟨us, ho, hu, hp, h1⟩ := h
  rcases ho.val with ⟨h1, h2⟩ | ⟨g, o, cap, h1, h2⟩
  · exact .inl ⟨h1, List.eq_nil_of_length_eq_zero h2⟩
  · exact .inr ⟨g, o, cap, h1, h2⟩

theorem load_sound (h : Rel w0 I n s a w η) {t : TypeId} {x y : V} {v : Value} (hx : loadV P s.st t x = some y) (hv : RV (cx w0 I s.st w η) v x) :
    ∃ u, (Instr.loadAt t v).run P w = .ok u w ∧ RV (cx w0 I s.st w η) u y := by
  unfold loadV at hx
  obtain ⟨k, hk, hx1⟩ := Option.bind_eq_some_iff.1 hx
  obtain ⟨ag, ha, hx2⟩ := Option.bind_eq_some_iff.1 hx1
  clear hx hx1
  have hx := hx2
  clear hx2
  cases x with
  | ptr b ver off =>
    obtain ⟨cs, hb, hx3⟩ := Option.bind_eq_some_iff.1 hx
    clear hx
    have hx := hx3
    obtain ⟨_, _, hl, g, o, cur, e, hη, hg, hp⟩ := look_box h hb
    obtain ⟨_, _, hp2⟩ := hv.ptr_inv
    obtain ⟨g', o', h1, rfl⟩ := hp2 _ hl
    rw [hη] at h1
    simp only [Value.pointer.injEq, Option.some.injEq, Addr.mk.injEq] at h1
    obtain ⟨rfl, rfl, _⟩ := h1
    obtain ⟨u, hr, hu⟩ := loadC_PW rv_agg hx (hp.drop off)
    refine ⟨u, run_loadAt' hk ha (fun j u hj => ?_) hu, hr⟩
    simp only [List.getElem?_drop, List.getElem?_take] at hj
    split at hj
    · simp only [World.cell?, hg]
      simpa [Nat.add_assoc] using hj
    · cases hj
  | rp b ver sz i off =>
    obtain ⟨⟨sz', e, l⟩, hb, hx3⟩ := Option.bind_eq_some_iff.1 hx
    clear hx
    simp only at hx3
    split at hx3
    · rename_i hsz
      subst hsz
      obtain ⟨el, hel, hx⟩ := Option.bind_eq_some_iff.1 hx3
      obtain ⟨_, _, hl, hrow⟩ := look_any h hb
      obtain ⟨_, _, hp2⟩ := hv.rp_inv
      obtain ⟨g, o, m, cap, h1, rfl⟩ := hp2 _ hl
      obtain ⟨us, hp, hc⟩ := row_cells hrow hel h1
      obtain ⟨u, hr, hu⟩ := loadC_PW rv_agg hx (hp.drop off)
      refine ⟨u, run_loadAt' hk ha (fun j u hj => ?_) hu, hr⟩
      rw [List.getElem?_drop] at hj
      have := hc _ _ hj
      rw [show o + (i * sz' + off) + j = o + (i * sz' + (off + j)) by omega]
      exact this
    · cases hx3
  | ept l =>
    cases hv.ept_inv with
    | ept us l g o hl he hr =>
      obtain ⟨x0, hx0, rfl⟩ := Option.map_eq_some_iff.1 hx
      obtain ⟨u, hr', hu⟩ := loadC_PW rc_agg hx0 ⟨hl, he⟩
      refine ⟨u, run_loadAt' hk ha (fun j u hj => ?_) hu, hr'.rvu⟩
      rcases hr with rfl | ⟨_, hc⟩
      · simp at hj
      · exact hc j u hj
  | s _ => simp at hx
  | agg _ => simp at hx
  | tup _ => simp at hx
  | lst _ _ _ => simp at hx
  | sw _ _ _ => simp at hx
  | sp _ _ _ _ _ => simp at hx
  | bp _ _ _ _ => simp at hx
  | mp _ _ => simp at hx
  | fn _ _ => simp at hx
  | own _ _ _ => simp at hx
  | obx _ => simp at hx
  | io _ _ _ => simp at hx

/-- a new variable at place d -/
theorem Rel.new (h : Rel w0 I n ⟨env, st⟩ a w η) {d e : Nat} {us : List Value} {cs : List V} (hp : PW (RV (cx w0 I st w η)) us cs) :
    ∃ η', Rel w0 I n ⟨env, ups st [(d, ⟨(st d).ver + 1, .box cs⟩)]⟩ a (w.alloc (.cells us.toArray e)) η' ∧
      RV (cx w0 I (ups st [(d, ⟨(st d).ver + 1, .box cs⟩)]) (w.alloc (.cells us.toArray e)) η') (.pointer (some ⟨w.heap.size, 0, none⟩)) (.ptr d ((st d).ver + 1) 0) := by
  have hnew : (w.alloc (.cells us.toArray e)).heap[w.heap.size]? = some (.cells us.toArray e (0, 0)) := heap_alloc_new w _
  have hst : ups st [(d, ⟨(st d).ver + 1, .box cs⟩)] = upd st d ⟨(st d).ver + 1, .box cs⟩ := rfl
  refine ⟨upd η d (.pointer (some ⟨w.heap.size, 0, none⟩)), ?_⟩
  rw [hst]
  obtain ⟨h2, hle⟩ := h.step (st' := upd st d ⟨(st d).ver + 1, .box cs⟩) (w' := w.alloc (.cells us.toArray e)) (η' := upd η d (.pointer (some ⟨w.heap.size, 0, none⟩))) (fun b => b = d)
    rfl rfl rfl (by simp) (fun b hb => by simp [upd, hb]) (fun b hb => by subst hb; simp [upd]) (fun b hb _ => by subst hb; simp [upd])
    (fun g hg hne => absurd (heap_alloc_old w _ hg) hne)
    (fun b g hb _ hg => by subst hb; simp [upd, blkOf] at hg; omega)
    (fun b b' g hb hb' _ _ _ _ => hb.trans hb'.symm)
    (fun hle b hb _ => by
      subst hb
      simp only [upd, if_pos]
      refine ⟨_, 0, _, e, rfl, hnew, ?_⟩
      have : (us.drop 0).take cs.length = us := by rw [← hp.1]; simp
      simp only [List.drop_zero] at this ⊢
      rw [this]
      exact hp.imp fun u x hx => hx.mono hle)
  refine ⟨h2, ?_⟩
  refine .ptr d _ 0 _ ⟨_, rfl⟩ (by simp [cx, upd]) fun v0 hv0 => ?_
  simp [cx, upd, Cont.live] at hv0
  subst hv0
  exact ⟨_, 0, rfl, rfl⟩

theorem putRow_spec {c c' : Cont} {i off sz : Nat} {ys : List V} (h : putRow c i off ys = some (sz, c')) :
    ∃ e l el, c.live = true ∧ (match c with | .row sz e l => some (sz, e, l) | .rowV sz e l => some (sz, e, l) | _ => none) = some (sz, e, l) ∧ l[i]? = some el ∧ off + ys.length ≤ el.cells.length ∧
      ((c = .row sz e l ∧ V.cloL true ys = true ∧ c' = .row sz e (l.set i (withCells el (spl el.cells off (V.unfrL ys))))) ∨ c' = .rowV sz e (l.set i (withCells el (spl el.cells off ys)))) := by
  unfold putRow at h
  split at h
  · obtain ⟨el, hel, h2⟩ := Option.bind_eq_some_iff.1 h
    split at h2
    case isFalse => cases h2
    rename_i hfit
    split at h2
    · rename_i hclo
      simp only [Option.some.injEq, Prod.mk.injEq] at h2
      obtain ⟨rfl, rfl⟩ := h2
      exact ⟨_, _, el, rfl, rfl, hel, hfit, .inl ⟨rfl, hclo, rfl⟩⟩
    · simp only [Option.some.injEq, Prod.mk.injEq] at h2
      obtain ⟨rfl, rfl⟩ := h2
      exact ⟨_, _, el, rfl, rfl, hel, hfit, .inr rfl⟩
  · obtain ⟨el, hel, h2⟩ := Option.bind_eq_some_iff.1 h
    split at h2
    case isFalse => cases h2
    rename_i hfit
    simp only [Option.some.injEq, Prod.mk.injEq] at h2
    obtain ⟨rfl, rfl⟩ := h2
    exact ⟨_, _, el, rfl, rfl, hel, hfit, .inr rfl⟩
  · cases h

theorem store_sound (h : Rel w0 I n ⟨env, st⟩ a w η) {t : TypeId} {x y : V} {v u : Value} {us : List (Nat × Blk)} (hx : storeV P st t x y = some us) (hv : RV (cx w0 I st w η) v x) (hu : RV (cx w0 I st w η) u y) :
    ∃ w', (Instr.storeAt t v u).run P w = .ok () w' ∧ Rel w0 I n ⟨env, ups st us⟩ a w' η := by
  unfold storeV at hx
  obtain ⟨k, hk, hx⟩ := Option.bind_eq_some_iff.1 hx
  split at hx
  case isFalse => cases hx
  rename_i hone
  obtain ⟨hlen, hall⟩ := hone
  have hpy := hu.cells
  have h1 : ∀ z ∈ u.cells.toList, z.oneCell' = true := fun z hz => by
    obtain ⟨i, hi⟩ := List.getElem?_of_mem hz
    obtain ⟨xx, hxx, hr⟩ := hpy.getl hi
    exact hr.one (List.all_eq_true.1 hall xx (List.mem_of_getElem? hxx))
  have hsz : u.cells.size = k := by rw [← hlen, ← hpy.1]; simp
  cases x with
  | ptr b ver off =>
    obtain ⟨cs, hb, hx⟩ := Option.bind_eq_some_iff.1 hx
    split at hx
    case isFalse => cases hx
    rename_i hfit
    simp only [Option.some.injEq] at hx
    subst hx
    obtain ⟨hver, hcont, hl, g, o, cur, e, hη, hg, hp⟩ := look_box h hb
    obtain ⟨_, _, hp2⟩ := hv.ptr_inv
    obtain ⟨g', o', h1', rfl⟩ := hp2 _ hl
    rw [hη] at h1'
    simp only [Value.pointer.injEq, Option.some.injEq, Addr.mk.injEq] at h1'
    obtain ⟨rfl, rfl, _⟩ := h1'
    have hcl : cs.length ≤ cur.size - o := by
      have := hp.1
      simp only [List.length_take, List.length_drop, Array.length_toList] at this
      omega
    have hul : u.cells.toList.length = k := by simpa using hsz
    have hfit2 : o + off + 0 + u.cells.toList.length ≤ cur.size ∨ k = 0 := by omega
    rcases Nat.eq_zero_or_pos cs.length with h0 | hpos
    · -- nothing to store
      have hk0 : k = 0 := by omega
      have hu0 : u.cells.toList = [] := List.eq_nil_of_length_eq_zero (by omega)
      have hy0 : y.cells = [] := List.eq_nil_of_length_eq_zero (by omega)
      refine ⟨w, ?_, ?_⟩
      · simp [Instr.storeAt, Instr.sureAddr, storeVar, run_sizeOf' hk, hsz, hu0, storeCells]
      · have hc0 : cs = [] := List.eq_nil_of_length_eq_zero h0
        have : ups st [(b, ⟨ver, .box (spl cs off y.cells)⟩)] = st := by
          funext j
          simp only [ups, upd]
          split
          · rename_i hj
            subst hj
            rw [hc0, hy0]
            have e1 : spl ([] : List V) off [] = [] := by simp [spl]
            rw [e1]
            cases hst : st j with
            | mk ver' c' =>
              simp only at hver hcont
              rw [hst] at hver hcont
              simp only at hver hcont
              rw [hver, hcont, hc0]
          · rfl
        rw [this]; exact h
    · have hfit3 : o + off + 0 + u.cells.toList.length ≤ cur.size := by omega
      have hst := run_storeCells_at P g (o + off) e u.cells.toList 0 cur w hg hfit3 h1
      refine ⟨w.setRow g (cur.toList.take (o + off + 0) ++ u.cells.toList ++ cur.toList.drop (o + off + 0 + u.cells.toList.length)).toArray, ?_, ?_⟩
      · simp only [Instr.storeAt, Instr.sureAddr, storeVar, Sem.run_bind, Sem.run_pure, Result.andThen_ok, run_sizeOf' hk, hsz]
        simp [hst]
      · refine (h.step (st' := ups st [(b, ⟨ver, .box (spl cs off y.cells)⟩)]) (w' := w.setRow g (cur.toList.take (o + off + 0) ++ u.cells.toList ++ cur.toList.drop (o + off + 0 + u.cells.toList.length)).toArray) (η' := η) (fun j => j = b) rfl rfl rfl (by simp) (fun j hj => by simp [ups, upd, hj]) (fun j hj => by subst hj; simp only [ups, upd, if_pos]; simp only at hver; omega)
          (fun j hj _ => by subst hj; right; exact ⟨rfl, by simp only at hcont; rw [hcont]; rfl⟩)
          (fun g' _ hne => ⟨b, rfl, by simp only at hcont; rw [hcont]; rfl, by
            rw [hη]
            by_cases hgg : g' = g
            · subst hgg; rfl
            · exact absurd (setRow_other w g g' _ hgg) hne⟩)
          (fun j g' hj _ hg' => .inr ⟨b, rfl, by simp only at hcont; rw [hcont]; rfl, by subst hj; exact hg'⟩)
          (fun j j' g' hj hj' _ _ _ _ => hj.trans hj'.symm)
          (fun hle j hj _ => ?_)).1
        subst hj
        simp only [ups, upd, if_pos]
        refine ⟨g, o, _, e, hη, setRow_heap w g cur _ e _ hg, ?_⟩
        have hp' := (hp.imp fun u x hx => hx.mono hle).spl (hpy.imp fun u x hx => hx.mono hle) off
        have hln : (spl cs off y.cells).length = cs.length := by
          simp only [spl, List.length_append, List.length_take, List.length_drop]; omega
        rw [hln]
        have : (((cur.toList.take (o + off + 0) ++ u.cells.toList ++ cur.toList.drop (o + off + 0 + u.cells.toList.length)).toArray.toList.drop o).take cs.length) =
            ((cur.toList.drop o).take cs.length).take off ++ u.cells.toList ++ ((cur.toList.drop o).take cs.length).drop (off + u.cells.toList.length) := by
          have hcs : cur.toList.length = cur.size := by simp
          apply List.ext_getElem?
          intro i
          simp only [List.getElem?_take, List.getElem?_drop, List.getElem?_append, List.length_append, List.length_take, List.length_drop, hcs, Nat.add_zero]
          by_cases hi : i < cs.length
          · by_cases h1 : i < off
            · have a1 : o + i < min (o + off) cur.size + u.cells.toList.length := by omega
              have a2 : o + i < min (o + off) cur.size := by omega
              have a3 : i < min off (min cs.length (cur.size - o)) + u.cells.toList.length := by omega
              have a4 : i < min off (min cs.length (cur.size - o)) := by omega
              have a5 : o + i < o + off := by omega
              simp only [hi, h1, a1, a2, a3, a4, a5, if_true]
            · by_cases h2 : i < off + u.cells.toList.length
              · have a1 : o + i < min (o + off) cur.size + u.cells.toList.length := by omega
                have a2 : ¬ o + i < min (o + off) cur.size := by omega
                have a3 : i < min off (min cs.length (cur.size - o)) + u.cells.toList.length := by omega
                have a4 : ¬ i < min off (min cs.length (cur.size - o)) := by omega
                have a5 : o + i - min (o + off) cur.size = i - min off (min cs.length (cur.size - o)) := by omega
                simp only [hi, a1, a2, a3, a4, a5, if_true, if_false]
              · have a1 : ¬ o + i < min (o + off) cur.size + u.cells.toList.length := by omega
                have a3 : ¬ i < min off (min cs.length (cur.size - o)) + u.cells.toList.length := by omega
                have a5 : o + off + u.cells.toList.length + (o + i - (min (o + off) cur.size + u.cells.toList.length)) = o + i := by omega
                have a6 : off + u.cells.toList.length + (i - (min off (min cs.length (cur.size - o)) + u.cells.toList.length)) = i := by omega
                simp only [hi, a1, a3, a5, a6, if_true, if_false]
          · have a3 : ¬ i < min off (min cs.length (cur.size - o)) + u.cells.toList.length := by omega
            have a6 : ¬ off + u.cells.toList.length + (i - (min off (min cs.length (cur.size - o)) + u.cells.toList.length)) < cs.length := by omega
            simp only [hi, a3, a6, if_false]
        rw [this]
        exact hp'
  | rp b ver sz i off =>
    simp only at hx
    split at hx
    case isFalse => cases hx
    rename_i hver
    obtain ⟨⟨sz', c'⟩, hput, hx2⟩ := Option.bind_eq_some_iff.1 hx
    clear hx
    split at hx2
    case isFalse => cases hx2
    rename_i hss
    simp only at hss
    subst hss
    simp only [Option.some.injEq] at hx2
    subst hx2
    obtain ⟨e, l, el, hlive, hany, hel, hfit, hc'⟩ := putRow_spec hput
    have hany' : rowAny st b ver = some (sz', e, l) := by unfold rowAny; rw [if_pos hver]; exact hany
    obtain ⟨_, _, hl, hrow⟩ := look_any h hany'
    obtain ⟨_, _, hp2⟩ := hv.rp_inv
    obtain ⟨g, o, m, cap, hη, rfl⟩ := hp2 _ hl
    obtain ⟨us0, ho, hun, hpw, hone1⟩ := hrow
    have hm : m = l.length := by
      rcases ho.val with ⟨h', _⟩ | ⟨g', o', cap', h', _⟩
      · rw [h'] at hη; cases hη
      · rw [h'] at hη; cases hη; rfl
    subst hm
    rcases ho.2 with ⟨h', _⟩ | ⟨g', o', cap', cur, fz, h', hg, hfz, hnc, hcm, hsize, htake⟩
    · rw [h'] at hη; cases hη
    rw [h'] at hη
    cases hη
    have hi : i < l.length := (List.getElem?_eq_some_iff.1 hel).1
    have helsz : el.cells.length = sz' := hun el (List.mem_of_getElem? hel)
    have hul : u.cells.toList.length = k := by simpa using hsz
    have hrange : i * sz' + off + k ≤ l.length * sz' := by
      have := Nat.mul_le_mul_right sz' (show i + 1 ≤ l.length by omega)
      rw [Nat.add_mul] at this
      omega
    have hcapsz : l.length * sz' ≤ cap * sz' := Nat.mul_le_mul_right _ hnc
    have hst := run_storeCells_h P g (o + (i * sz' + off)) e fz u.cells.toList 0 cur w hg hfz (by omega) h1
    simp only [Nat.add_zero] at hst
    have husl : us0.length = l.length * sz' := ho.1
    have hput2 := OwnRow.put (w := w) (g := g) (o := o) (cap := cap) (cur := cur) (fz := fz) (e := e) (sz := sz') (n := l.length) (us := us0) husl hg hfz hnc hcm hsize htake (k := i * sz' + off) (m := l.length) (vs := u.cells.toList) (by omega) hnc (Nat.le_refl _) (by omega) (.inl rfl)
    refine ⟨w.setRow g (cur.toList.take (o + (i * sz' + off)) ++ u.cells.toList ++ cur.toList.drop (o + (i * sz' + off) + u.cells.toList.length)).toArray, ?_, ?_⟩
    · simp only [Instr.storeAt, Instr.sureAddr, storeVar, Sem.run_bind, Sem.run_pure, Result.andThen_ok, run_sizeOf' hk, hsz]
      simp [hst]
    · refine (h.step (st' := ups st [(b, ⟨ver, c'⟩)]) (w' := w.setRow g (cur.toList.take (o + (i * sz' + off)) ++ u.cells.toList ++ cur.toList.drop (o + (i * sz' + off) + u.cells.toList.length)).toArray) (η' := η) (fun j => j = b) rfl rfl rfl (by simp) (fun j hj => by simp [ups, upd, hj]) (fun j hj => by subst hj; simp only [ups, upd, if_pos]; omega)
          (fun j hj _ => by subst hj; right; exact ⟨rfl, hlive⟩)
          (fun g' _ hne => ⟨b, rfl, hlive, by
            rw [h']
            by_cases hgg : g' = g
            · subst hgg; rfl
            · exact absurd (setRow_other w g g' _ hgg) hne⟩)
          (fun j g' hj _ hg' => .inr ⟨b, rfl, hlive, by subst hj; exact hg'⟩)
          (fun j j' g' hj hj' _ _ _ _ => hj.trans hj'.symm)
          (fun hle j hj _ => ?_)).1
      subst hj
      simp only [ups, upd, if_pos]
      have hnew1 : ∀ z ∈ us0.take (i * sz' + off) ++ u.cells.toList ++ us0.drop (i * sz' + off + u.cells.toList.length), z.oneCell' = true := by
        intro z hz
        rcases List.mem_append.1 hz with hz | hz
        · rcases List.mem_append.1 hz with hz | hz
          · exact hone1 z (List.mem_of_mem_take hz)
          · exact h1 z hz
        · exact hone1 z (List.mem_of_mem_drop hz)
      have hnewu : ∀ (ys : List V), ys.length = y.cells.length → (∀ z ∈ ys, z.cells = [z]) → ∀ x ∈ l.set i (withCells el (spl el.cells off ys)), x.cells.length = sz' := by
        intro ys hys hy1 x hx
        rcases List.mem_or_eq_of_mem_set hx with hx | rfl
        · exact hun x hx
        · rw [withCells_spl (by omega) hy1]
          simp only [spl, List.length_append, List.length_take, List.length_drop]; omega
      have hm1 : ∀ z ∈ V.unfrL y.cells, z.cells = [z] := fun z hz => by
        rw [unfrL_map] at hz
        obtain ⟨z', hz', rfl⟩ := List.mem_map.1 hz
        exact one_cells (List.all_eq_true.1 hall z' hz')
      have hm0 : ∀ z ∈ y.cells, z.cells = [z] := fun z hz => one_cells0 (List.all_eq_true.1 hall z hz)
      rcases hc' with ⟨hcr, hclo, rfl⟩ | rfl
      · have hB := h.blk j hlive
        simp only at hB
        rw [hcr] at hB
        obtain ⟨us1, ho1, _, hpw1, _⟩ := hB
        have hus : us1 = us0 := by
          rcases ho1.2 with ⟨h'', _⟩ | ⟨g2, o2, cap2, cur2, fz2, h2, hg2, _, _, _, _, htake2⟩
          · rw [h''] at h'; cases h'
          · rw [h2] at h'; cases h'
            have hg3 : w.heap[g]? = some (.cells cur2 e fz2) := hg2
            have hg4 := hg3.symm.trans hg
            cases hg4
            rw [← htake2, ← htake]
        subst hus
        have hpy2 : PW (RC w (cx w0 I st w η).own (cx w0 I st w η).fresh true) u.cells.toList (V.unfrL y.cells) := by
          refine ⟨by rw [unfrL_len]; exact hpy.1, fun j v z hv hz => ?_⟩
          rw [unfrL_get] at hz
          obtain ⟨z', hz', rfl⟩ := Option.map_eq_some_iff.1 hz
          exact ((hpy.2 j v z' hv hz').clo (cloL_get hclo hz')).unfr
        have hfs := flat_spl l i el _ off (V.unfrL y.cells) hun hel (withCells_spl (by rw [unfrL_len]; omega) hm1) (by rw [unfrL_len]; omega)
        refine ⟨_, by rw [List.length_set, h']; exact hput2, hnewu _ (unfrL_len _) hm1, ?_, hnew1⟩
        rw [hfs]
        refine (PW.spl hpw1 hpy2 _).imp fun u x hx => ?_
        have := hx.mono hle.cells; rw [← hle.fresh] at this; exact this
      · have hfs := flat_spl l i el _ off y.cells hun hel (withCells_spl (by omega) hm0) (by omega)
        refine ⟨_, by rw [List.length_set, h']; exact hput2, hnewu _ rfl hm0, ?_, hnew1⟩
        rw [hfs]
        exact (PW.spl hpw hpy _).imp fun u x hx => hx.mono hle
  | s _ => simp at hx
  | agg _ => simp at hx
  | tup _ => simp at hx
  | lst _ _ _ => simp at hx
  | sw _ _ _ => simp at hx
  | sp _ _ _ _ _ => simp at hx
  | bp _ _ _ _ => simp at hx
  | mp _ _ => simp at hx
  | ept _ => simp at hx
  | fn _ _ => simp at hx
  | own _ _ _ => simp at hx
  | obx _ => simp at hx
  | io _ _ _ => simp at hx
end

end Go.Proofs.YtkfmecmmbnehjaaGreat
/-
Operations of the plain reckoning stand for those in memory: what is reckoned from values. No condition.
-/
namespace Go.Proofs.YtkfmecmmbnehjaaGreat
set_option linter.unusedSimpArgs false
set_option linter.unusedVariables false

/-- types of which == is that of their numbers -/
def EqOk (P : Program) (E : EqT) : Prop := ∀ t, E t = true → ∀ (us vs : List Value) (r : Bool) (xo yo : Operand), szOf P t = some us.length → eqInts (us.map .s) (vs.map .s) = some r → ∀ w : World,
  (do eqGuard .eql t xo yo (.agg us.toArray) (.agg vs.toArray); binOp .eql t (.agg us.toArray) (.agg vs.toArray) : Sem Value).run P w = .ok (.bool r) w ∧
  (do eqGuard .neq t xo yo (.agg us.toArray) (.agg vs.toArray); binOp .neq t (.agg us.toArray) (.agg vs.toArray) : Sem Value).run P w = .ok (.bool (!r)) w

section
variable {P : Program} {w0 w : World} {I : Ow} {n : Nat} {s : S} {env : Nat → V} {st : Nat → Blk} {a : Act} {η : Nat → Value}

theorem intBin_run {op : BinOp} {k : IntKind} {x y : Int} {r : Value} (h : intBin op k x y = some r) (t : TypeId) (xo yo : Operand) (w : World) :
    (do eqGuard op t xo yo (.int k x) (.int k y); binOp op t (.int k x) (.int k y) : Sem Value).run P w = .ok r w := by
  cases op <;> simp only [intBin, Option.some.injEq, reduceCtorEq] at h
  case quo =>
    split at h
    · cases h
    · rename_i h0
      simp only [Option.some.injEq] at h
      subst h
      simp [eqGuard, binOp, Op.intDiv, h0]
  case rem =>
    split at h
    · cases h
    · rename_i h0
      simp only [Option.some.injEq] at h
      subst h
      simp [eqGuard, binOp, Op.intDiv, h0]
  all_goals (subst h; simp [eqGuard, binOp, Op.intArith, Op.intBits, Op.intCmp])

theorem binS_run {op : BinOp} {x y r : Value} (h : binS op x y = some r) (t : TypeId) (xo yo : Operand) (w : World) :
    (do eqGuard op t xo yo x y; binOp op t x y : Sem Value).run P w = .ok r w := by
  unfold binS at h
  split at h
  · rename_i k a k' b
    split at h
    · cases h
    · rename_i h0
      simp only [Option.some.injEq] at h
      subst h
      simp [eqGuard, binOp, Op.shift, h0]
  · rename_i k a k' b
    split at h
    · cases h
    · rename_i h0
      simp only [Option.some.injEq] at h
      subst h
      simp [eqGuard, binOp, Op.shift, h0]
  · split at h
    · rename_i hk
      subst hk
      exact intBin_run h t xo yo w
    · cases h
  · simp only [Option.some.injEq] at h
    subst h
    simp [eqGuard, binOp, Op.stringOp]
  · simp only [Option.some.injEq] at h
    subst h
    simp [eqGuard, binOp, Op.stringOp]
  · cases h

theorem eqInts_s {us vs : List Value} {l m : List V} {r : Bool} {c : Cx} (h : eqInts l m = some r) (hu : PW (RV c) us l) (hv : PW (RV c) vs m) : l = us.map .s ∧ m = vs.map .s := by
  induction l generalizing us vs m r with
  | nil =>
    cases m with
    | nil => rw [hu.nil_r, hv.nil_r]; simp
    | cons y m => simp [eqInts] at h
  | cons x l ih =>
    cases m with
    | nil => cases x <;> simp [eqInts] at h
    | cons y m =>
      obtain ⟨u, us', rfl, h1, h2⟩ := hu.uncons
      obtain ⟨v, vs', rfl, h3, h4⟩ := hv.uncons
      unfold eqInts at h
      split at h
      · rename_i he _; simp at he
      · rename_i k a x' k' b y' he he'
        simp only [List.cons.injEq] at he he'
        obtain ⟨rfl, rfl⟩ := he
        obtain ⟨rfl, rfl⟩ := he'
        split at h
        · obtain ⟨r', hr, _⟩ := Option.map_eq_some_iff.1 h
          obtain ⟨e1, e2⟩ := ih hr h2 h4
          rw [h1.s_inv, h3.s_inv, List.map_cons, List.map_cons, ← e1, ← e2]
          exact ⟨rfl, rfl⟩
        · cases h
      · cases h

theorem nilEq_run {op : BinOp} {t : TypeId} {p : Option Addr} {z : V} (ht : isPtrT P t = true) (h : nilEq op p.isNone = some z) (xo yo : Operand) (w : World) {c : Cx} :
    ∃ r, (do eqGuard op t xo yo (.pointer p) (.pointer none); binOp op t (.pointer p) (.pointer none) : Sem Value).run P w = .ok r w ∧ RV c r z := by
  have hu : P.underlying t = some (.pointer (P.pointee t)) := by
    unfold isPtrT at ht
    split at ht
    · rename_i e he
      simp [Program.pointee, he]
    · cases ht
  unfold nilEq at h
  split at h <;> simp only [Option.some.injEq, reduceCtorEq] at h
  · subst h
    exact ⟨_, by simp only [eqGuard, Sem.run_bind]; simp [run_eql_pointer_nil w t p hu], .s _⟩
  · subst h
    exact ⟨_, by simp only [eqGuard, Sem.run_bind]; simp [run_neq_pointer_nil w t p hu], .s _⟩

theorem bin_sound {E : EqT} (hE : EqOk P E) {op : BinOp} {t : TypeId} {x y z : V} {u v : Value} {c : Cx} (h : binV P E op t x y = some z) (hu : RV c u x) (hv : RV c v y) (xo yo : Operand) (w : World) :
    ∃ r, (do eqGuard op t xo yo u v; binOp op t u v : Sem Value).run P w = .ok r w ∧ RV c r z := by
  unfold binV at h
  split at h
  · rename_i a b
    rw [hu.s_inv, hv.s_inv]
    split at h
    · rename_i hb
      have hub : P.underlying t = some .bool := by
        unfold isBoolT at hb
        split at hb
        · rename_i h'; exact h'
        · cases hb
      split at h <;> simp only [Option.some.injEq, reduceCtorEq] at h
      · subst h
        exact ⟨_, by simp only [eqGuard, Sem.run_bind]; simp [run_eql_bool w t a b hub], .s _⟩
      · subst h
        exact ⟨_, by simp only [eqGuard, Sem.run_bind]; simp [run_neq_bool w t a b hub, bne], .s _⟩
    · cases h
  · split at h
    case isFalse => cases h
    rename_i ht
    rw [hu.s_inv, hv.s_inv]
    exact nilEq_run (p := none) ht h xo yo w
  · rename_i a b _ _
    rw [hu.s_inv, hv.s_inv]
    obtain ⟨r, hr, rfl⟩ := Option.map_eq_some_iff.1 h
    exact ⟨r, binS_run hr t xo yo w, .s _⟩
  · split at h
    case isFalse => cases h
    rename_i ht
    obtain ⟨⟨A, rfl⟩, _, _⟩ := hu.ptr_inv
    rw [hv.s_inv]
    exact nilEq_run (p := some A) ht h xo yo w
  · split at h
    case isFalse => cases h
    rename_i ht
    rw [hv.s_inv]
    have hu' := hu.ept_inv
    cases hu'
    exact nilEq_run (p := some _) ht h xo yo w
  · rename_i a b
    split at h
    · rename_i hc
      obtain ⟨hEt, hsz⟩ := hc
      obtain ⟨us, rfl, hp⟩ := hu.agg_inv
      obtain ⟨vs, rfl, hq⟩ := hv.agg_inv
      split at h
      · obtain ⟨r, hr, rfl⟩ := Option.map_eq_some_iff.1 h
        obtain ⟨e1, e2⟩ := eqInts_s hr hp hq
        rw [e1, e2] at hr
        exact ⟨_, (hE t hEt us vs r xo yo (by rw [hsz, hp.1]) hr w).1, .s _⟩
      · obtain ⟨r, hr, rfl⟩ := Option.map_eq_some_iff.1 h
        obtain ⟨e1, e2⟩ := eqInts_s hr hp hq
        rw [e1, e2] at hr
        exact ⟨_, (hE t hEt us vs r xo yo (by rw [hsz, hp.1]) hr w).2, .s _⟩
      · cases h
    · cases h
  · cases h

theorem un_sound {op : UnOp} {x z : V} {u : Value} {c : Cx} (h : unV op x = some z) (hu : RV c u x) (w : World) : ∃ r, (Op.unary op u).run P w = .ok r w ∧ RV c r z := by
  unfold unV at h
  split at h
  · rw [hu.s_inv]
    split at h <;> simp only [Option.some.injEq, reduceCtorEq] at h
    subst h
    exact ⟨_, by simp [Op.unary], .s _⟩
  · rw [hu.s_inv]
    split at h <;> simp only [Option.some.injEq, reduceCtorEq] at h
    · subst h
      exact ⟨_, by simp [Op.unary, Op.intArith], .s _⟩
    · subst h
      exact ⟨_, by simp [Op.unary, Op.intBits], .s _⟩
  · cases h

theorem asI_inv {x : V} {i : Int} {u : Value} {c : Cx} (h : asI x = some i) (hu : RV c u x) : ∃ k, u = .int k i := by
  unfold asI at h
  split at h
  · simp only [Option.some.injEq] at h
    subst h
    exact ⟨_, hu.s_inv⟩
  · cases h

theorem field_sound {t k off : Nat} (h : fieldV P t k = some off) (g o : Nat) (w : World) : (Instr.fieldAt t (.pointer (some ⟨g, o, none⟩)) k).run P w = .ok (.pointer (some ⟨g, o + off, none⟩)) w := by
  unfold fieldV at h
  split at h
  · rename_i fs hu
    split at h
    · rename_i f hf
      obtain ⟨m, hm, h⟩ := Option.bind_eq_some_iff.1 h
      split at h
      · cases h
      · rename_i h0
        simp only [Option.some.injEq] at h
        subst h
        simp [Instr.fieldAt, run_underlying hu, hf, Instr.sureAddr, fieldPlace, run_sizeOf' hm, h0, Addr.add_lit]
    · cases h
  · cases h

theorem fieldAddr_sound (H : Rel w0 I n s a w η) {t k off : Nat} (hf : fieldV P t k = some off) {x z : V} {u : Value} (hu : RV (cx w0 I s.st w η) u x) (h : fieldAddrV s.st off x = some z) :
    ∃ r, (Instr.fieldAt t u k).run P w = .ok r w ∧ RV (cx w0 I s.st w η) r z := by
  cases x <;> simp only [fieldAddrV, reduceCtorEq] at h
  case ptr b ver o' =>
    obtain ⟨cs, hb, rfl⟩ := Option.map_eq_some_iff.1 h
    obtain ⟨v0, hv0⟩ : ∃ v0, (cx w0 I s.st w η).look b ver = some v0 := ⟨_, (look_box H hb).2.2.1⟩
    obtain ⟨_, hver, hp⟩ := hu.ptr_inv
    obtain ⟨g, o, h1, rfl⟩ := hp v0 hv0
    refine ⟨_, field_sound hf g _ w, .ptr b ver _ _ ⟨_, rfl⟩ hver fun v1 hv1 => ?_⟩
    rw [hv0] at hv1
    simp only [Option.some.injEq] at hv1
    subst hv1
    exact ⟨g, o, h1, by rw [Nat.add_assoc]⟩
  case rp b ver sz i o' =>
    obtain ⟨⟨sz', e, l⟩, hb, rfl⟩ := Option.map_eq_some_iff.1 h
    obtain ⟨v0, hv0⟩ : ∃ v0, (cx w0 I s.st w η).look b ver = some v0 := ⟨_, (look_any H hb).2.2.1⟩
    obtain ⟨_, hver, hp⟩ := hu.rp_inv
    obtain ⟨g, o, m, cap, h1, rfl⟩ := hp v0 hv0
    refine ⟨_, field_sound hf g _ w, .rp b ver sz i _ _ ⟨_, rfl⟩ hver fun v1 hv1 => ?_⟩
    rw [hv0] at hv1
    simp only [Option.some.injEq] at hv1
    subst hv1
    exact ⟨g, o, m, cap, h1, by simp only [Nat.add_assoc]⟩
  case ept l =>
    simp only [Option.some.injEq] at h
    subst h
    cases hu.ept_inv with
    | ept us l g o hl he hr =>
      refine ⟨_, field_sound hf g o w, .ept _ _ (.ept (us.drop off) (l.drop off) g (o + off) (by simp [hl]) (fun i u x hu hx => ?_) ?_)⟩
      · rw [List.getElem?_drop] at hu hx
        exact he _ u x hu hx
      · rcases hr with rfl | ⟨ho, hc⟩
        · exact .inl (by simp)
        · refine .inr ⟨ho, fun j u hu => ?_⟩
          rw [List.getElem?_drop] at hu
          rw [Nat.add_assoc]
          exact hc _ u hu

theorem nil_sound (H : Rel w0 I n s a w η) {x z : V} {u : Value} (hu : RV (cx w0 I s.st w η) u x) (h : fieldAddrV s.st 0 x = some z) :
    RV (cx w0 I s.st w η) u z ∧ ∃ g, u = .pointer (some g) := by
  cases x <;> simp only [fieldAddrV, reduceCtorEq] at h
  case ptr b ver o' =>
    obtain ⟨cs, hb, rfl⟩ := Option.map_eq_some_iff.1 h
    obtain ⟨v0, hv0⟩ : ∃ v0, (cx w0 I s.st w η).look b ver = some v0 := ⟨_, (look_box H hb).2.2.1⟩
    obtain ⟨_, hver, hp⟩ := hu.ptr_inv
    obtain ⟨g, o, h1, rfl⟩ := hp v0 hv0
    exact ⟨hu, _, rfl⟩
  case rp b ver sz i o' =>
    obtain ⟨⟨sz', e, l⟩, hb, rfl⟩ := Option.map_eq_some_iff.1 h
    obtain ⟨v0, hv0⟩ : ∃ v0, (cx w0 I s.st w η).look b ver = some v0 := ⟨_, (look_any H hb).2.2.1⟩
    obtain ⟨_, hver, hp⟩ := hu.rp_inv
    obtain ⟨g, o, m, cap, h1, rfl⟩ := hp v0 hv0
    exact ⟨hu, _, rfl⟩
  case ept l =>
    simp only [Option.some.injEq, List.drop_zero] at h
    subst h
    refine ⟨hu, ?_⟩
    cases hu.ept_inv with
    | ept us l g o hl he hr => exact ⟨_, rfl⟩
end

end Go.Proofs.YtkfmecmmbnehjaaGreat
/-
Operations of the plain reckoning stand for those in memory: slices, lengths, texts. No condition.
-/
namespace Go.Proofs.YtkfmecmmbnehjaaGreat
set_option linter.unusedSimpArgs false
set_option linter.unusedVariables false

section
variable {P : Program} {w0 w : World} {I : Ow} {n : Nat} {s : S} {env : Nat → V} {st : Nat → Blk} {a : Act} {η : Nat → Value}

theorem RowR.part {own fresh : Nat → Prop} {v0 : Value} {sz e : Nat} {l : List V} (h : RowR w own fresh v0 sz e l) {off len cp : Nat} {A : Option Addr} (hp : PartOf sz off v0 (.slice A len cp)) (hl : off + len ≤ l.length) :
    RowR w own fresh (.slice A len cp) sz e ((l.drop off).take len) := by
  obtain ⟨us, ho, hu, hpw, h1⟩ := h
  have hll : ((l.drop off).take len).length = len := by rw [List.length_take, List.length_drop]; omega
  refine ⟨(us.drop (off * sz)).take (len * sz), ?_, fun x hx => hu x (List.mem_of_mem_drop (List.mem_of_mem_take hx)), ?_, fun u hu => h1 u (List.mem_of_mem_drop (List.mem_of_mem_take hu))⟩
  · rw [hll]; exact ho.part hl hp
  · rw [flat_sub l off len hu hl]
    exact (hpw.drop _).take _
theorem RowR.elems {own fresh : Nat → Prop} {v0 : Value} {sz e : Nat} {l : List V} (h : RowR w own fresh v0 sz e l) :
    ∃ A cp us, v0 = .slice A l.length cp ∧ l.length ≤ cp ∧ (∀ x ∈ l, x.cells.length = sz) ∧ PW (RC w own fresh true) us (flat l) ∧ (∀ u ∈ us, u.oneCell' = true) ∧
      (us = [] ∨ ∃ g o, A = some ⟨g, o, none⟩ ∧ ∀ j u, us[j]? = some u → w.cell? ⟨g, o + j, none⟩ = some u) := by
  obtain ⟨us, ho, hu', hp, h3⟩ := h
  rcases ho.val with ⟨h1, h2⟩ | ⟨g, o, cap, h1, h2⟩
  · have hl : l = [] := List.eq_nil_of_length_eq_zero h2
    subst hl
    exact ⟨none, 0, [], h1, Nat.le_refl _, fun x hx => by simp at hx, PW.nil, fun u hu => by simp at hu, .inl rfl⟩
  · exact ⟨_, cap, us, h1, h2, hu', hp, h3, .inr ⟨g, o, rfl, ho.cells h1⟩⟩
theorem RowV.elems {c : Cx} {v0 : Value} {sz e : Nat} {l : List V} (h : RowV c v0 sz e l) :
    ∃ A cp us, v0 = .slice A l.length cp ∧ l.length ≤ cp ∧ (∀ x ∈ l, x.cells.length = sz) ∧ PW (RV c) us (flat l) ∧ (∀ u ∈ us, u.oneCell' = true) ∧
      (us = [] ∨ ∃ g o, A = some ⟨g, o, none⟩ ∧ ∀ j u, us[j]? = some u → c.w.cell? ⟨g, o + j, none⟩ = some u) := by
  obtain ⟨us, ho, hu', hp, h3⟩ := h
  rcases ho.val with ⟨h1, h2⟩ | ⟨g, o, cap, h1, h2⟩
  · have hl : l = [] := List.eq_nil_of_length_eq_zero h2
    subst hl
    exact ⟨none, 0, [], h1, Nat.le_refl _, fun x hx => by simp at hx, PW.nil, fun u hu => by simp at hu, .inl rfl⟩
  · exact ⟨_, cap, us, h1, h2, hu', hp, h3, .inr ⟨g, o, rfl, ho.cells h1⟩⟩
theorem PartOf.blk {sz i : Nat} {v0 v : Value} (h : PartOf sz i v0 v) : blkOf v = blkOf v0 := by
  rcases h with ⟨rfl, rfl⟩ | ⟨g, o, n, cap, len, o', rfl, rfl, _⟩ <;> rfl
/-- a row of one's own, or the part of one -/
theorem own_sound (h : Rel w0 I n s a w η) {x : V} {u : Value} (hu : RV (cx w0 I s.st w η) u x) {b ver sz e : Nat} {l : List V} (hx : ownRow s.st x = some (b, ver, sz, e, l)) :
    (s.st b).ver = ver ∧ (∃ l0, (s.st b).c = .row sz e l0) ∧ blkOf u = blkOf (η b) ∧ RowR w (cx w0 I s.st w η).own (cx w0 I s.st w η).fresh u sz e l := by
  cases x <;> simp only [ownRow, reduceCtorEq] at hx
  case sw b' ver' len' =>
    obtain ⟨⟨sz', e', l'⟩, hb, hx⟩ := Option.map_eq_some_iff.1 hx
    simp only [Prod.mk.injEq] at hx
    obtain ⟨rfl, rfl, rfl, rfl, rfl⟩ := hx
    obtain ⟨h1, h2, hl, hrow⟩ := look_row h hb
    have e1 := hu.sw_inv.2.2 _ hl
    subst e1
    exact ⟨h1, ⟨_, h2⟩, rfl, hrow⟩
  case sp b' ver' sz1 off len' =>
    obtain ⟨⟨sz', e', l'⟩, hb, hx⟩ := Option.bind_eq_some_iff.1 hx
    simp only at hx
    split at hx
    case isFalse => cases hx
    rename_i hc
    obtain ⟨rfl, hc⟩ := hc
    simp only [Option.some.injEq, Prod.mk.injEq] at hx
    obtain ⟨rfl, rfl, rfl, rfl, rfl⟩ := hx
    obtain ⟨h1, h2, hl, hrow⟩ := look_row h hb
    obtain ⟨⟨A, cp, rfl, hlc⟩, _, hp⟩ := hu.sp_inv
    exact ⟨h1, ⟨_, h2⟩, (hp _ hl).blk, hrow.part (hp _ hl) hc⟩

/-- what is known of a list that is read -/
theorem elems_sound (h : Rel w0 I n s a w η) {x : V} {u : Value} (hu : RV (cx w0 I s.st w η) u x) {sz : Nat} {fr : Bool} {l : List V} (hx : elemsOf s.st x = some (sz, fr, l)) :
    ∃ A cp us, u = .slice A l.length cp ∧ l.length ≤ cp ∧ (∀ x ∈ l, x.cells.length = sz) ∧ PW (RC w (cx w0 I s.st w η).own (cx w0 I s.st w η).fresh fr) us (flat l) ∧ (∀ u ∈ us, u.oneCell' = true) ∧
      (us = [] ∨ ∃ g o, A = some ⟨g, o, none⟩ ∧ ∀ j u, us[j]? = some u → w.cell? ⟨g, o + j, none⟩ = some u) := by
  cases x <;> simp only [elemsOf, reduceCtorEq] at hx
  case lst fr' sz' l' =>
    simp only [Option.some.injEq, Prod.mk.injEq] at hx
    obtain ⟨rfl, rfl, rfl⟩ := hx
    cases hu.lst_inv with
    | lst k fr sz l A cp us hc hu hl he h1 hr =>
      refine ⟨A, cp, us, rfl, hc, hu, ⟨hl, he⟩, h1, ?_⟩
      rcases hr with hr | ⟨g, o, hA, _, _, hc⟩
      · exact .inl hr
      · exact .inr ⟨g, o, hA, hc⟩
  case sw b ver len =>
    obtain ⟨⟨sz', e, l'⟩, hb, hx⟩ := Option.map_eq_some_iff.1 hx
    simp only [Prod.mk.injEq] at hx
    obtain ⟨rfl, rfl, rfl⟩ := hx
    obtain ⟨_, _, _, hrow⟩ := own_sound h hu (b := b) (ver := ver) (sz := sz') (e := e) (l := l') (by simp [ownRow, hb])
    exact hrow.elems
  case sp b ver sz1 off len =>
    obtain ⟨⟨sz', e, l'⟩, hb, hx⟩ := Option.bind_eq_some_iff.1 hx
    simp only at hx
    split at hx
    case isFalse => cases hx
    rename_i hc
    simp only [Option.some.injEq, Prod.mk.injEq] at hx
    obtain ⟨rfl, rfl, rfl⟩ := hx
    obtain ⟨_, _, _, hrow⟩ := own_sound h hu (b := b) (ver := ver) (sz := sz') (e := e) (l := (l'.drop off).take len) (by simp [ownRow, hb, hc])
    rw [hc.1] at hrow
    exact hrow.elems

theorem bnds_sound {len cap l h : Nat} {lo hi : Option V} {lo' hi' : Option Value} {c : Cx} (hb : bnds len lo hi = some (l, h)) (hcap : len ≤ cap) (hlo : ∀ x, lo = some x → ∃ u, lo' = some u ∧ RV c u x) (hlo0 : lo = none → lo' = none)
    (hhi : ∀ x, hi = some x → ∃ u, hi' = some u ∧ RV c u x) (hhi0 : hi = none → hi' = none) (b : Bool) (w : World) : l ≤ h ∧ h ≤ len ∧ (Instr.sliceBounds b len cap lo' hi' none).run P w = .ok (l, h, cap) w := by
  unfold bnds at hb
  split at hb
  · rename_i hv lv hh hl
    split at hb
    · rename_i hc
      obtain ⟨c1, c2, c3⟩ := hc
      simp only [Option.some.injEq, Prod.mk.injEq] at hb
      obtain ⟨rfl, rfl⟩ := hb
      refine ⟨by omega, by omega, ?_⟩
      have hw : ((hv.toNat : Nat) : Int) = hv := by omega
      cases hi with
      | none =>
        obtain rfl := hhi0 rfl
        simp only [Option.some.injEq] at hh
        subst hh
        cases lo with
        | none =>
          obtain rfl := hlo0 rfl
          simp only [Option.some.injEq] at hl
          subst hl
          simp [Instr.sliceBounds]
        | some x =>
          obtain ⟨u, rfl, hu⟩ := hlo x rfl
          obtain ⟨k, rfl⟩ := asI_inv hl hu
          simp [Instr.sliceBounds, Instr.sliceBound, asIntOf, c1, c2]
      | some y =>
        obtain ⟨v, rfl, hv'⟩ := hhi y rfl
        obtain ⟨k', rfl⟩ := asI_inv hh hv'
        have c4 : hv ≤ (cap : Int) := by omega
        have c5 : 0 ≤ hv := by omega
        cases lo with
        | none =>
          obtain rfl := hlo0 rfl
          simp only [Option.some.injEq] at hl
          subst hl
          simp [Instr.sliceBounds, Instr.sliceBound, asIntOf, c4, c5]
        | some x =>
          obtain ⟨u, rfl, hu⟩ := hlo x rfl
          obtain ⟨k, rfl⟩ := asI_inv hl hu
          simp only [Instr.sliceBounds, Instr.sliceBound, asIntOf, Sem.run_bind, Sem.run_pure, Result.andThen_ok, Sem.run_ite, c4, c5, c1, hw, c2, and_self, if_true]
    · cases hb
  · cases hb

theorem slice_sound (H : Rel w0 I n s a w η) {t : TypeId} {x z : V} {u : Value} {lo hi : Option V} {lo' hi' : Option Value} (h : sliceV P s.st t x lo hi = some z) (hu : RV (cx w0 I s.st w η) u x)
    (hlo : ∀ x, lo = some x → ∃ u, lo' = some u ∧ RV (cx w0 I s.st w η) u x) (hlo0 : lo = none → lo' = none) (hhi : ∀ x, hi = some x → ∃ u, hi' = some u ∧ RV (cx w0 I s.st w η) u x) (hhi0 : hi = none → hi' = none) :
    ∃ r, (Instr.sliceAt t u lo' hi' none).run P w = .ok r w ∧ RV (cx w0 I s.st w η) r z := by
  unfold sliceV at h
  split at h
  · rename_i b hd
    rw [hu.s_inv]
    obtain ⟨⟨l, hh⟩, hb, rfl⟩ := Option.map_eq_some_iff.1 h
    obtain ⟨_, _, hr⟩ := bnds_sound (P := P) hb (Nat.le_refl _) hlo hlo0 hhi hhi0 false w
    exact ⟨_, by simp [Instr.sliceAt, Instr.slice, run_underlying hd, hr], .s _⟩
  · rename_i e fr sz l hd
    split at h
    case isFalse => cases h
    rename_i hsz
    obtain ⟨⟨i, j⟩, hb, rfl⟩ := Option.map_eq_some_iff.1 h
    cases hu.lst_inv with
    | lst k fr sz l A cp us hc hu' hl he h1 hr =>
      obtain ⟨c1, c2, hrun⟩ := bnds_sound (P := P) hb hc hlo hlo0 hhi hhi0 true w
      have hll : ((l.drop i).take (j - i)).length = j - i := by rw [List.length_take, List.length_drop]; omega
      refine ⟨.slice (if cp = i then A else A.map (·.add (i * sz))) (j - i) (cp - i), ?_, ?_⟩
      · simp [Instr.sliceAt, Instr.slice, run_underlying hd, hrun, run_sizeOf' hsz]
      · have hfl : flat ((l.drop i).take (j - i)) = ((flat l).drop (i * sz)).take ((j - i) * sz) := flat_sub l i (j - i) hu' (by omega)
        have hp : PW (RC w (cx w0 I s.st w η).own (cx w0 I s.st w η).fresh fr) ((us.drop (i * sz)).take ((j - i) * sz)) (flat ((l.drop i).take (j - i))) := by
          rw [hfl]; exact ((show PW _ us (flat l) from ⟨hl, he⟩).drop _).take _
        have := RC.lst (w := w) (own := (cx w0 I s.st w η).own) (fresh := (cx w0 I s.st w η).fresh) fr fr sz ((l.drop i).take (j - i)) (if cp = i then A else A.map (·.add (i * sz))) (cp - i) ((us.drop (i * sz)).take ((j - i) * sz))
          (by rw [hll]; omega) (fun x hx => hu' x (List.mem_of_mem_drop (List.mem_of_mem_take hx))) hp.1 hp.2 (fun u hu => h1 u (List.mem_of_mem_drop (List.mem_of_mem_take hu))) (by
            rcases hr with rfl | ⟨g, o, rfl, ho, hf, hcell⟩
            · exact .inl (by simp)
            · by_cases hci : cp = i
              · left
                have : j - i = 0 := by omega
                simp [this]
              · refine .inr ⟨g, o + i * sz, by simp [hci, Addr.add_lit], ho, hf, fun q u hq => ?_⟩
                rw [List.getElem?_take] at hq
                split at hq
                · rw [List.getElem?_drop] at hq
                  rw [Nat.add_assoc]
                  exact hcell _ u hq
                · cases hq)
        rw [hll] at this
        exact .lst _ _ _ _ this
  · rename_i e b ver len hd
    obtain ⟨⟨sz, e', l⟩, hb, h2⟩ := Option.bind_eq_some_iff.1 h
    simp only at h2
    split at h2
    case isFalse => cases h2
    rename_i hsz
    obtain ⟨⟨i, j⟩, hbn, rfl⟩ := Option.map_eq_some_iff.1 h2
    obtain ⟨hver, hcont, hl, hrow⟩ := look_any H hb
    have e1 := hu.sw_inv.2.2 _ hl
    rcases hrow.val with ⟨h1, h3⟩ | ⟨g, o, cap, h1, h3⟩
    · subst h3
      rw [h1] at e1
      subst e1
      obtain ⟨c1, c2, hrun⟩ := bnds_sound (P := P) hbn (Nat.le_refl _) hlo hlo0 hhi hhi0 true w
      simp only [List.length_nil] at c1 c2 hrun
      have hi0 : i = 0 := by omega
      have hj0 : j = 0 := by omega
      subst hi0
      subst hj0
      refine ⟨.slice none 0 0, ?_, .sp b ver sz _ _ _ ⟨_, _, rfl, Nat.le_refl _⟩ (by simp [cx, hver]) fun v0 hv0 => ?_⟩
      · simp [Instr.sliceAt, Instr.slice, run_underlying hd, hrun, run_sizeOf' hsz]
      · rw [hl] at hv0
        simp only [Option.some.injEq] at hv0
        subst hv0
        exact .inl ⟨h1, rfl⟩
    · rw [h1] at e1
      subst e1
      obtain ⟨c1, c2, hrun⟩ := bnds_sound (P := P) hbn h3 hlo hlo0 hhi hhi0 true w
      refine ⟨.slice (some ⟨g, if cap = i then o else o + i * sz, none⟩) (j - i) (cap - i), ?_, .sp b ver sz _ _ _ ⟨_, _, rfl, by omega⟩ (by simp [cx, hver]) fun v0 hv0 => ?_⟩
      · simp [Instr.sliceAt, Instr.slice, run_underlying hd, hrun, run_sizeOf' hsz]
        split <;> simp [Addr.add_lit]
      · rw [hl] at hv0
        simp only [Option.some.injEq] at hv0
        subst hv0
        refine .inr ⟨g, o, _, cap, _, _, h1, rfl, by omega, ?_⟩
        by_cases hci : cap = i
        · right; rw [if_pos hci]; exact ⟨hci, by omega⟩
        · left; rw [if_neg hci]
  · rename_i e b ver sz off len hd
    obtain ⟨⟨sz', e', l⟩, hb, h2⟩ := Option.bind_eq_some_iff.1 h
    simp only at h2
    split at h2
    case isFalse => cases h2
    rename_i hsz
    obtain ⟨⟨i, j⟩, hbn, rfl⟩ := Option.map_eq_some_iff.1 h2
    obtain ⟨hver, hcont, hl, hrow⟩ := look_any H hb
    obtain ⟨⟨A, cp, rfl, hlc⟩, _, hpo⟩ := hu.sp_inv
    obtain ⟨c1, c2, hrun⟩ := bnds_sound (P := P) hbn hlc hlo hlo0 hhi hhi0 true w
    rcases hpo _ hl with ⟨h1, h3⟩ | ⟨g, o, m, cap, len', o', h1, h3, hoc, hA⟩
    · cases h3
      have hi0 : i = 0 := by omega
      have hj0 : j = 0 := by omega
      subst hi0
      subst hj0
      refine ⟨.slice none 0 0, ?_, .sp b ver sz _ _ _ ⟨_, _, rfl, Nat.le_refl _⟩ (by simp [cx, hver]) fun v0 hv0 => ?_⟩
      · simp [Instr.sliceAt, Instr.slice, run_underlying hd, hrun, run_sizeOf' hsz]
      · rw [hl] at hv0
        simp only [Option.some.injEq] at hv0
        subst hv0
        exact .inl ⟨h1, rfl⟩
    · cases h3
      refine ⟨.slice (some ⟨g, if cap - off = i then o' else o' + i * sz, none⟩) (j - i) (cap - off - i), ?_, .sp b ver sz _ _ _ ⟨_, _, rfl, by omega⟩ (by simp [cx, hver]) fun v0 hv0 => ?_⟩
      · simp [Instr.sliceAt, Instr.slice, run_underlying hd, hrun, run_sizeOf' hsz]
        split <;> simp [Addr.add_lit]
      · rw [hl] at hv0
        simp only [Option.some.injEq] at hv0
        subst hv0
        refine .inr ⟨g, o, m, cap, _, _, h1, by rw [Nat.sub_sub], by omega, ?_⟩
        have hmul : o + (off + i) * sz = o + off * sz + i * sz := by rw [Nat.add_mul]; omega
        by_cases hci : cap - off = i
        · right
          rw [if_pos hci]
          refine ⟨by omega, ?_⟩
          rw [hmul]
          rcases hA with hA | ⟨_, hA⟩
          · rw [hA]; omega
          · omega
        · left
          rw [if_neg hci, hmul]
          rcases hA with hA | ⟨hA, _⟩
          · rw [hA]
          · omega
  · rename_i m e b ver off hd
    obtain ⟨cs, hb, h2⟩ := Option.bind_eq_some_iff.1 h
    split at h2
    case isFalse => cases h2
    rename_i hsz
    obtain ⟨⟨i, j⟩, hbn, rfl⟩ := Option.map_eq_some_iff.1 h2
    obtain ⟨hver, hcont, hl, _⟩ := look_box H hb
    obtain ⟨_, _, hp⟩ := hu.ptr_inv
    obtain ⟨g, o, h1, rfl⟩ := hp _ hl
    obtain ⟨c1, c2, hrun⟩ := bnds_sound (P := P) hbn (Nat.le_refl _) hlo hlo0 hhi hhi0 false w
    refine ⟨.slice (some (if m = i then ⟨g, o + off, none⟩ else ⟨g, o + off + i, none⟩)) (j - i) (m - i), ?_, .bp b ver _ _ _ ⟨_, _, rfl, by omega⟩ (by simp [cx, hver]) fun v0 hv0 => ?_⟩
    · simp [Instr.sliceAt, Instr.sureAddr, run_underlying hd, hrun, run_sizeOf' hsz, Addr.add_lit]
    · rw [hl] at hv0
      simp only [Option.some.injEq] at hv0
      subst hv0
      by_cases hmi : m = i
      · left; omega
      · right
        rw [if_neg hmi]
        exact ⟨g, o, m - i, h1, by rw [Nat.add_assoc]⟩
  · rename_i arr b ver off hd
    split at h
    case h_2 => cases h
    rename_i m e harr
    obtain ⟨cs, hb, h2⟩ := Option.bind_eq_some_iff.1 h
    split at h2
    case isFalse => cases h2
    rename_i hsz
    obtain ⟨⟨i, j⟩, hbn, rfl⟩ := Option.map_eq_some_iff.1 h2
    obtain ⟨hver, hcont, hl, _⟩ := look_box H hb
    obtain ⟨_, _, hp⟩ := hu.ptr_inv
    obtain ⟨g, o, h1, rfl⟩ := hp _ hl
    obtain ⟨c1, c2, hrun⟩ := bnds_sound (P := P) hbn (Nat.le_refl _) hlo hlo0 hhi hhi0 false w
    refine ⟨.slice (some (if m = i then ⟨g, o + off, none⟩ else ⟨g, o + off + i, none⟩)) (j - i) (m - i), ?_, .bp b ver _ _ _ ⟨_, _, rfl, by omega⟩ (by simp [cx, hver]) fun v0 hv0 => ?_⟩
    · simp [Instr.sliceAt, Instr.slice, run_underlying hd, run_underlying harr, hrun, run_sizeOf' hsz, asAddr, Addr.add_lit]
    · rw [hl] at hv0
      simp only [Option.some.injEq] at hv0
      subst hv0
      by_cases hmi : m = i
      · left; omega
      · right
        rw [if_neg hmi]
        exact ⟨g, o, m - i, h1, by rw [Nat.add_assoc]⟩
  · cases h

theorem len_sound (H : Rel w0 I n s a w η) {t : TypeId} {x z : V} {u : Value} (h : lenV P s.st t x = some z) (hu : RV (cx w0 I s.st w η) u x) (ty : TypeId) :
    ∃ r, (Builtin.len_ #[t] ty #[u]).run P w = .ok r w ∧ RV (cx w0 I s.st w η) r z := by
  unfold lenV at h
  split at h
  · rename_i b hd
    simp only [Option.some.injEq] at h
    subst h
    rw [hu.s_inv]
    exact ⟨_, by simp [Builtin.len_, run_underlying hd, goInt], .s _⟩
  · rename_i m e hd
    simp only [Option.some.injEq] at h
    subst h
    exact ⟨.int .i64 m, by simp [Builtin.len_, run_underlying hd, goInt], .s _⟩
  · rename_i e A m c hd
    simp only [Option.some.injEq] at h
    subst h
    rw [hu.s_inv]
    exact ⟨_, by simp [Builtin.len_, run_underlying hd, goInt], .s _⟩
  · rename_i e b ver m hd
    simp only [Option.some.injEq] at h
    subst h
    obtain ⟨⟨A, cp, rfl⟩, _, _⟩ := hu.sw_inv
    exact ⟨_, by simp [Builtin.len_, run_underlying hd, goInt], .s _⟩
  · rename_i e b ver sz off m hd
    simp only [Option.some.injEq] at h
    subst h
    obtain ⟨⟨A, cp, rfl, _⟩, _, _⟩ := hu.sp_inv
    exact ⟨_, by simp [Builtin.len_, run_underlying hd, goInt], .s _⟩
  · rename_i e b ver off m hd
    simp only [Option.some.injEq] at h
    subst h
    obtain ⟨⟨A, cp, rfl, _⟩, _, _⟩ := hu.bp_inv
    exact ⟨_, by simp [Builtin.len_, run_underlying hd, goInt], .s _⟩
  · rename_i e hd _ _ _ _
    obtain ⟨⟨sz, fr, l⟩, he, rfl⟩ := Option.map_eq_some_iff.1 h
    obtain ⟨A, cp, us, rfl, _⟩ := elems_sound H hu he
    exact ⟨.int .i64 l.length, by simp [Builtin.len_, run_underlying hd, goInt], .s _⟩
  · cases h

theorem indexAddr_sound (H : Rel w0 I n s a w η) {t : TypeId} {x y z : V} {u v : Value} (h : indexAddrV P s.st t x y = some z) (hu : RV (cx w0 I s.st w η) u x) (hv : RV (cx w0 I s.st w η) v y) :
    ∃ r, (Instr.indexAt t u v).run P w = .ok r w ∧ RV (cx w0 I s.st w η) r z := by
  unfold indexAddrV at h
  split at h
  · rename_i i m e b ver off hi hd
    obtain ⟨k, rfl⟩ := asI_inv hi hv
    obtain ⟨sz, hsz, h2⟩ := Option.bind_eq_some_iff.1 h
    split at h2
    case isFalse => cases h2
    rename_i hc
    obtain ⟨cs, hb, rfl⟩ := Option.map_eq_some_iff.1 h2
    obtain ⟨hver, _, hl, _⟩ := look_box H hb
    obtain ⟨_, hv2, hp⟩ := hu.ptr_inv
    obtain ⟨g, o, h1, rfl⟩ := hp _ hl
    refine ⟨.pointer (some ⟨g, o + off + i.toNat * sz, none⟩), ?_, .ptr b ver _ _ ⟨_, rfl⟩ hv2 fun v0 hv0 => ?_⟩
    · simp [Instr.indexAt, asIntOf, run_underlying hd, Instr.sureAddr, hc, run_sizeOf' hsz, Addr.add_lit]
    · rw [hl] at hv0
      simp only [Option.some.injEq] at hv0
      subst hv0
      exact ⟨g, o, h1, by rw [Nat.add_assoc]⟩
  · rename_i i m e l hi hd
    obtain ⟨k, rfl⟩ := asI_inv hi hv
    obtain ⟨sz, hsz, h2⟩ := Option.bind_eq_some_iff.1 h
    split at h2
    case isFalse => cases h2
    rename_i hc
    simp only [Option.some.injEq] at h2
    subst h2
    cases hu.ept_inv with
    | ept us l g o hl he hr =>
      refine ⟨.pointer (some ⟨g, o + i.toNat * sz, none⟩), ?_, .ept _ _ (.ept (us.drop (i.toNat * sz)) (l.drop (i.toNat * sz)) g (o + i.toNat * sz) (by simp [hl]) (fun j u x hu hx => ?_) ?_)⟩
      · simp [Instr.indexAt, asIntOf, run_underlying hd, Instr.sureAddr, hc, run_sizeOf' hsz, Addr.add_lit]
      · rw [List.getElem?_drop] at hu hx
        exact he _ u x hu hx
      · rcases hr with rfl | ⟨ho, hcell⟩
        · exact .inl (by simp)
        · refine .inr ⟨ho, fun j u hu => ?_⟩
          rw [List.getElem?_drop] at hu
          rw [Nat.add_assoc]
          exact hcell _ u hu
  · rename_i i e b ver len hi hd
    obtain ⟨k, rfl⟩ := asI_inv hi hv
    obtain ⟨⟨sz, e', l⟩, hb, h2⟩ := Option.bind_eq_some_iff.1 h
    simp only at h2
    split at h2
    case isFalse => cases h2
    rename_i hc
    obtain ⟨hsz, hc1, hc2⟩ := hc
    simp only [Option.some.injEq] at h2
    subst h2
    obtain ⟨hver, _, hl, hrow⟩ := look_any H hb
    have e1 := hu.sw_inv.2.2 _ hl
    rcases hrow.val with ⟨h1, h3⟩ | ⟨g, o, cap, h1, h3⟩
    · subst h3; simp at hc2; omega
    · rw [h1] at e1
      subst e1
      refine ⟨.pointer (some ⟨g, o + i.toNat * sz, none⟩), ?_, .rp b ver sz _ 0 _ ⟨_, rfl⟩ (by simp [cx, hver]) fun v0 hv0 => ?_⟩
      · simp [Instr.indexAt, asIntOf, run_underlying hd, hc1, hc2, run_sizeOf' hsz, Addr.add_lit]
      · rw [hl] at hv0
        simp only [Option.some.injEq] at hv0
        subst hv0
        exact ⟨g, o, _, cap, h1, by simp⟩
  · rename_i i e b ver sz off len hi hd
    obtain ⟨k, rfl⟩ := asI_inv hi hv
    obtain ⟨⟨sz', e', l⟩, hb, h2⟩ := Option.bind_eq_some_iff.1 h
    simp only at h2
    split at h2
    case isFalse => cases h2
    rename_i hc
    obtain ⟨hsz, hc1, hc2⟩ := hc
    simp only [Option.some.injEq] at h2
    subst h2
    obtain ⟨hver, _, hl, hrow⟩ := look_any H hb
    obtain ⟨⟨A, cp, rfl, hlc⟩, _, hpo⟩ := hu.sp_inv
    rcases hpo _ hl with ⟨h1, h3⟩ | ⟨g, o, m, cap, len', o', h1, h3, hoc, hA⟩
    · cases h3
      simp at hc2; omega
    · cases h3
      have ho' : o' = o + off * sz := by
        rcases hA with hA | ⟨hA, _⟩
        · exact hA
        · omega
      refine ⟨.pointer (some ⟨g, o' + i.toNat * sz, none⟩), ?_, .rp b ver sz _ 0 _ ⟨_, rfl⟩ (by simp [cx, hver]) fun v0 hv0 => ?_⟩
      · simp [Instr.indexAt, asIntOf, run_underlying hd, hc1, hc2, run_sizeOf' hsz, Addr.add_lit]
      · rw [hl] at hv0
        simp only [Option.some.injEq] at hv0
        subst hv0
        refine ⟨g, o, m, cap, h1, ?_⟩
        rw [ho', Nat.add_mul]
        simp [Nat.add_assoc]
  · rename_i i e fr sz l hi hd
    obtain ⟨k, rfl⟩ := asI_inv hi hv
    split at h
    case isFalse => cases h
    rename_i hc
    obtain ⟨hsz, hc1, hsz0⟩ := hc
    obtain ⟨x, hx, rfl⟩ := Option.map_eq_some_iff.1 h
    have hlt : i.toNat < l.length := (List.getElem?_eq_some_iff.1 hx).1
    cases hu.lst_inv with
    | lst k fr sz l A cp us hcp hu' hl he h1 hr =>
      have hf := flat_at l i.toNat x hu' hx
      have hpw : PW (RC w (cx w0 I s.st w η).own (cx w0 I s.st w η).fresh fr) ((us.drop (i.toNat * sz)).take sz) x.cells := by
        rw [← hf]; exact ((show PW _ us (flat l) from ⟨hl, he⟩).drop _).take _
      have hi2 : i < (l.length : Int) := by omega
      rcases hr with rfl | ⟨g, o, rfl, ho, hfr, hcell⟩
      · have := hpw.1
        have h2 := hu' x (List.mem_of_getElem? hx)
        simp at this
        omega
      · refine ⟨.pointer (some ⟨g, o + i.toNat * sz, none⟩), ?_, .ept _ _ (.ept ((us.drop (i.toNat * sz)).take sz) x.cells g (o + i.toNat * sz) hpw.1 (fun j u y hu hy => (hpw.2 j u y hu hy).weak) (.inr ⟨ho, fun j u hj => ?_⟩))⟩
        · simp [Instr.indexAt, asIntOf, run_underlying hd, hc1, hi2, run_sizeOf' hsz, Addr.add_lit]
        · rw [List.getElem?_take] at hj
          split at hj
          · rw [List.getElem?_drop] at hj
            rw [Nat.add_assoc]
            exact hcell _ u hj
          · cases hj
  · cases h

theorem index_sound {t : TypeId} {x y z : V} {u v : Value} {c : Cx} (h : indexV P t x y = some z) (hu : RV c u x) (hv : RV c v y) :
    ∃ r, (Instr.index t u v).run P w = .ok r w ∧ RV c r z := by
  unfold indexV at h
  split at h
  · rename_i i b hi hd
    obtain ⟨k, rfl⟩ := asI_inv hi hv
    rw [hu.s_inv]
    split at h
    case isFalse => cases h
    rename_i hc
    obtain ⟨q, hq, rfl⟩ := Option.map_eq_some_iff.1 h
    exact ⟨_, by simp [Instr.index, asIntOf, run_underlying hd, hc, hq], .s _⟩
  · rename_i i m e l hi hd
    obtain ⟨k, rfl⟩ := asI_inv hi hv
    obtain ⟨sz, hsz, h2⟩ := Option.bind_eq_some_iff.1 h
    obtain ⟨ag, hag, h3⟩ := Option.bind_eq_some_iff.1 h2
    split at h3
    case isFalse => cases h3
    rename_i hc
    obtain ⟨us, rfl, hp⟩ := hu.agg_inv
    obtain ⟨r, hr, hv'⟩ := loadC_PW rv_agg h3 (hp.drop (i.toNat * sz))
    refine ⟨r, ?_, hr⟩
    cases ag with
    | true =>
      simp only [if_true] at hv'
      obtain ⟨h4, rfl⟩ := hv'
      simp only [Instr.index, asIntOf, Sem.run_bind, Sem.run_pure, Result.andThen_ok, run_underlying hd, hc, and_self, if_true, run_sizeOf' hsz, part, run_isAgg' hag]
      simp
    | false =>
      simp only [Bool.false_eq_true, if_false] at hv'
      rw [List.getElem?_drop] at hv'
      simp only [Nat.add_zero] at hv'
      simp [Instr.index, asIntOf, run_underlying hd, hc, run_sizeOf' hsz, part, run_isAgg' hag, hv']
  · cases h
end

end Go.Proofs.YtkfmecmmbnehjaaGreat
/-
Operations of the plain reckoning stand for those in memory: new rows, rows that grow, texts and bytes. No condition.
-/
namespace Go.Proofs.YtkfmecmmbnehjaaGreat
set_option linter.unusedSimpArgs false
set_option linter.unusedVariables false

section
variable {P : Program} {w0 w : World} {I : Ow} {n : Nat} {s : S} {env : Nat → V} {st : Nat → Blk} {a : Act} {η : Nat → Value}

/-- memory goes on, no block of one's own turns -/
theorem Rel.quiet {w' : World} (h : Rel w0 I n ⟨env, st⟩ a w η) (hos : w'.os = w.os) (htp : w'.tape = w.tape) (hout : w'.output = w.output) (hsz : w.heap.size ≤ w'.heap.size) (hh : ∀ g, g < w.heap.size → w'.heap[g]? = w.heap[g]?) :
    Rel w0 I n ⟨env, st⟩ a w' η ∧ (cx w0 I st w η).le (cx w0 I st w' η) :=
  h.step (fun _ => False) hos htp hout hsz (fun _ _ => ⟨rfl, rfl⟩) (fun _ h => h.elim) (fun _ h => h.elim) (fun g hg hne => absurd (hh g hg) hne) (fun _ _ h => h.elim) (fun _ _ _ h => h.elim) (fun _ _ h => h.elim)

theorem isU8T_spec {t : Nat} (h : isU8T P t = true) : P.underlying t = some (.int .u8) := by
  unfold isU8T at h
  split at h
  · assumption
  · cases h

theorem conv_sound (H : Rel w0 I n ⟨env, st⟩ a w η) {src dst : TypeId} {x z : V} {u : Value} (h : convV P st src dst x = some z) (hu : RV (cx w0 I st w η) u x) :
    ∃ r w', (convert src dst u).run P w = .ok r w' ∧ Rel w0 I n ⟨env, st⟩ a w' η ∧ RV (cx w0 I st w' η) r z := by
  unfold convV at h
  split at h
  · rename_i d k k' m hs hd
    simp only [Option.some.injEq] at h
    subst h
    rw [hu.s_inv]
    exact ⟨_, w, by simp [convert, run_underlying hs, run_underlying hd, Conv.intToInt], H, .s _⟩
  · rename_i d b hs hd
    simp only [Option.some.injEq] at h
    subst h
    rw [hu.s_inv]
    exact ⟨_, w, by simp [convert, run_underlying hs, run_underlying hd], H, .s _⟩
  · rename_i e b hs hd
    split at h
    case isFalse => cases h
    rename_i he
    simp only [Option.some.injEq] at h
    subst h
    rw [hu.s_inv]
    have he' := isU8T_spec he
    have hr := run_bytes_of_string (P := P) w src dst e b hs hd he'
    obtain ⟨h2, hle⟩ := H.quiet (w' := w.drew.alloc (.cells (bytesRow b (grownCap w b.size 0 e)) e ((bytesRow b (grownCap w b.size 0 e)).size, (bytesRow b (grownCap w b.size 0 e)).size + 1))) rfl rfl rfl (by simp) (fun g hg => heap_alloc_old w.drew _ hg)
    refine ⟨_, _, hr, h2, .lst _ _ _ _ ?_⟩
    have hcap : b.size ≤ grownCap w b.size 0 e := grownCap_ge w b.size 0 e
    have hlen : (b.data.toList.map fun b => V.s (.int .u8 b.toNat)).length = b.size := by simp
    have hfl : flat (b.data.toList.map fun b => V.s (.int .u8 b.toNat)) = (b.data.toList.map fun b => V.s (.int .u8 b.toNat)) := by
      simp [flat, List.flatMap_map, V.cells, ← List.map_eq_flatMap]
    have := RC.lst (w := w.drew.alloc (.cells (bytesRow b (grownCap w b.size 0 e)) e ((bytesRow b (grownCap w b.size 0 e)).size, (bytesRow b (grownCap w b.size 0 e)).size + 1)))
      (own := (cx w0 I st (w.drew.alloc (.cells (bytesRow b (grownCap w b.size 0 e)) e ((bytesRow b (grownCap w b.size 0 e)).size, (bytesRow b (grownCap w b.size 0 e)).size + 1))) η).own) (fresh := fun g => w0.heap.size ≤ g ∨ I.i g)
      true true 1 (b.data.toList.map fun b => V.s (.int .u8 b.toNat)) (some ⟨w.heap.size, 0, none⟩) (grownCap w b.size 0 e) (b.data.toList.map fun b => .int .u8 b.toNat)
      (by rw [hlen]; exact hcap) (fun x hx => by simp at hx; obtain ⟨q, _, rfl⟩ := hx; rfl) (by rw [hfl]; simp) (fun i u x hu hx => by
        rw [hfl] at hx
        rw [List.getElem?_map] at hu hx
        obtain ⟨q, hq, rfl⟩ := Option.map_eq_some_iff.1 hu
        rw [hq] at hx
        simp at hx
        subst hx
        exact .s _ _) (fun u hu => by simp at hu; obtain ⟨q, _, rfl⟩ := hu; rfl) (.inr ⟨w.heap.size, 0, rfl, ?_, fun _ => .inl H.fr.size, fun j u hj => ?_⟩)
    · rw [hlen] at this
      exact this
    · rintro ⟨b', hb', hg'⟩
      have hB0 := H.blk b' hb'
      simp only at hB0 hb'
      have : w.heap.size < w.heap.size := hB0.lt hb' hg'
      omega
    · have hnew := heap_alloc_new w.drew (.cells (bytesRow b (grownCap w b.size 0 e)) e ((bytesRow b (grownCap w b.size 0 e)).size, (bytesRow b (grownCap w b.size 0 e)).size + 1))
      simp only [World.cell?]
      have hsz2 : w.drew.heap.size = w.heap.size := rfl
      rw [hsz2] at hnew
      rw [hnew]
      simp only [Option.isSome_none, Bool.false_eq_true, if_false, Nat.zero_add]
      unfold bytesRow
      rw [List.getElem?_map] at hj
      obtain ⟨q, hq, rfl⟩ := Option.map_eq_some_iff.1 hj
      have hjl : j < b.data.size := by
        have := (List.getElem?_eq_some_iff.1 hq).1
        simpa using this
      simp only [Array.getElem?_append, Array.size_map, hjl, if_true, Array.getElem?_map]
      have : b.data[j]? = some q := by simpa using hq
      rw [this]; rfl
  · rename_i e e' b ver m hs hd
    split at h
    case isFalse => cases h
    rename_i hc
    obtain ⟨rfl, rfl, he⟩ := hc
    have he' := isU8T_spec he
    obtain ⟨⟨sz, e2, l⟩, hb, h2⟩ := Option.bind_eq_some_iff.1 h
    simp only at h2
    split at h2
    case isFalse => cases h2
    rename_i hpos
    simp only [Option.some.injEq] at h2
    subst h2
    obtain ⟨hver, hcont, hl, hrow⟩ := look_row H hb
    simp only at hver hcont
    have e1 := hu.sw_inv.2.2 _ hl
    subst e1
    obtain ⟨us, ho, hun, hp, h1⟩ := hrow
    have hlive : (st b).c.live = true := by rw [hcont]; rfl
    have hnn : η b ≠ .slice none 0 0 := fun hn => by
      rcases ho.val with ⟨_, h0⟩ | ⟨g, o, cap, h', _⟩
      · omega
      · rw [h'] at hn; cases hn
    obtain ⟨w', hr, ho', hg⟩ := run_mark (P := P) ho hnn hs he'
    obtain ⟨h6, hle⟩ := H.step (st' := st) (w' := w') (η' := η) (fun j => j = b) hg.os hg.tape hg.output hg.size (fun j _ => ⟨rfl, rfl⟩) (fun j _ => Nat.le_refl _) (fun j hj _ => by subst hj; exact .inr ⟨rfl, hlive⟩)
      (fun g hlt hne => ⟨b, rfl, hlive, by
        refine Classical.byContradiction fun hnn => hne (hg.block g hlt fun e => hnn e.symm)⟩)
      (fun j g hj _ hgb => .inr ⟨b, rfl, hlive, by subst hj; exact hgb⟩)
      (fun j j' g hj hj' _ _ _ _ => hj.trans hj'.symm)
      (fun hle j hj _ => by
        subst hj
        rw [hcont]
        exact ⟨us, ho', hun, hp.imp fun u x hx => by have := hx.mono hle.cells; rw [← hle.fresh] at this; exact this, h1⟩)
    exact ⟨_, w', hr, h6, hu.mono hle⟩
  · rename_i e hs hd _
    split at h
    case isFalse => cases h
    rename_i he
    have he' := isU8T_spec he
    split at h
    · simp only [Option.some.injEq] at h
      subst h
      rw [hu.s_inv]
      exact ⟨_, w, conv_rd (P := P) (w := w) (A := none) (xs := []) (n := 0) (c := 0) (Rd.nil w none) rfl src e hs he' dst hd, H, .s _⟩
    · rename_i x' hx'
      obtain ⟨⟨sz, fr, l⟩, hel, h2⟩ := Option.bind_eq_some_iff.1 h
      simp only at h2
      split at h2
      case isFalse => cases h2
      rename_i hall
      simp only [Option.some.injEq] at h2
      subst h2
      obtain ⟨A, cp, us, rfl, hcp, hun, hp, h1, hc⟩ := elems_sound H hu hel
      have hl8 : ∀ x ∈ l, ∃ m, x = .s (.int .u8 m) := fun x hx => by
        have := List.all_eq_true.1 hall x hx
        unfold isU8 at this
        split at this
        · exact ⟨_, rfl⟩
        · cases this
      have hfl : flat l = l := flat_u8 l hl8
      rw [hfl] at hp
      have hus : us = nums .u8 (l.map numOf) := by
        apply List.ext_getElem?
        intro i
        rcases Nat.lt_or_ge i l.length with hi | hi
        · obtain ⟨m, hm⟩ := hl8 l[i] (List.getElem_mem hi)
          obtain ⟨v, hv, hr⟩ := hp.get (List.getElem?_eq_getElem hi)
          rw [hm] at hr
          cases hr
          rw [hv]
          simp [nums, List.getElem?_eq_getElem hi, hm, numOf]
        · rw [List.getElem?_eq_none (by rw [hp.1]; exact hi), List.getElem?_eq_none (by simpa [nums] using hi)]
      refine ⟨_, w, conv_rd (P := P) (xs := l.map numOf) (n := l.length) (c := cp) (A := A) ?_ (by simp) src e hs he' dst hd, H, .s _⟩
      rw [← hus]
      rcases hc with hc | ⟨g, o, hA, hc⟩
      · exact .inl hc
      · exact .inr ⟨g, o, hA, hc⟩
  · cases h
end

end Go.Proofs.YtkfmecmmbnehjaaGreat
/-
Operations of the plain reckoning stand for those in memory: values put together, rows written out, rows that grow. No condition.
-/
namespace Go.Proofs.YtkfmecmmbnehjaaGreat
set_option linter.unusedSimpArgs false
set_option linter.unusedVariables false

section
variable {P : Program} {w0 w : World} {I : Ow} {n : Nat} {s : S} {env : Nat → V} {st : Nat → Blk} {a : Act} {η : Nat → Value}

theorem foldl_put (off : Nat) : ∀ (vs : List Value) (k : Nat) (A : Array Value), off + k + vs.length ≤ A.size →
    ((vs.zipIdx k).foldl (fun cs (p : Value × Nat) => cs.setIfInBounds (off + p.2) p.1) A).toList = A.toList.take (off + k) ++ vs ++ A.toList.drop (off + k + vs.length)
  | [], k, A, _ => by simp
  | v :: vs, k, A, h => by
    simp only [List.length_cons] at h
    rw [List.zipIdx_cons, List.foldl_cons, foldl_put off vs (k + 1) _ (by simp; omega)]
    have e := list_seg_step A.toList (off + k) v vs (by simp; omega)
    simpa [Array.toList_setIfInBounds, Nat.add_assoc] using e

theorem fill_sound {R : Value → V → Prop} (hcell : ∀ u x, R u x → PW R u.cells.toList x.cells) {ρ : Operand → V} {ρ' : Operand → Value} (hr : ∀ x, R (ρ' x) (ρ x)) (place : Nat → Option (Nat × Nat)) :
    ∀ (ps : List (Nat × Operand)) (cells cs : List V) (us : List Value), fillC place cells (ps.map fun p => (p.1, ρ p.2)) = some cs → PW R us cells →
      ∃ us', Instr.fill place us.toArray (ps.map fun p => (p.1, ρ' p.2)) = some us'.toArray ∧ PW R us' cs
  | [], cells, cs, us, h, hp => by
    simp only [List.map_nil, fillC, Option.some.injEq] at h
    subst h
    exact ⟨us, rfl, hp⟩
  | (i, x) :: ps, cells, cs, us, h, hp => by
    simp only [List.map_cons, fillC] at h
    split at h
    · cases h
    · rename_i off size hpl
      split at h
      case isFalse => cases h
      rename_i hc
      obtain ⟨h1, h2⟩ := hc
      have hx := hcell _ _ (hr x)
      have hsz : (ρ' x).cells.size = size := by rw [← h1, ← hx.1]; simp
      have hl : (ρ' x).cells.toList.length = (ρ x).cells.length := hx.1
      have hfit : off + 0 + (ρ' x).cells.toList.length ≤ us.toArray.size := by
        have := hp.1
        simp only [List.size_toArray]
        omega
      have hf := foldl_put off (ρ' x).cells.toList 0 us.toArray hfit
      obtain ⟨us', hu', hp'⟩ := fill_sound hcell hr place ps _ cs ((us.take off ++ (ρ' x).cells.toList ++ us.drop (off + (ρ' x).cells.toList.length))) h (hp.spl hx off)
      refine ⟨us', ?_, hp'⟩
      simp only [List.map_cons, Instr.fill, hpl]
      have hn : ((ρ' x).cells.size ≠ size || off + (ρ' x).cells.size > us.toArray.size) = false := by
        simp only [Bool.or_eq_false_iff, decide_eq_false_iff_not]
        simp at hfit ⊢
        exact ⟨hsz, by omega⟩
      rw [if_neg (by rw [hn]; simp)]
      have : (ρ' x).cells.zipIdx.foldl (fun cs (c, j) => cs.setIfInBounds (off + j) c) us.toArray = (us.take off ++ (ρ' x).cells.toList ++ us.drop (off + (ρ' x).cells.toList.length)).toArray := by
        apply Array.toList_inj.1
        rw [← Array.foldl_toList, Array.toList_zipIdx]
        simpa using hf
      rw [this]
      exact hu'

theorem build_sound (h : Rel w0 I n s a w η) {t : TypeId} {ps : List (Nat × Operand)} {cs : List V} (hb : buildC P t (ps.map fun p => (p.1, ev s.env p.2)) = some cs) :
    ∃ r, (Instr.build t (ps.map fun p => (p.1, a.eval p.2)).toArray).run P w = .ok r w ∧ RV (cx w0 I s.st w η) r (.agg cs) := by
  unfold buildC at hb
  split at hb
  · rename_i it m e hi hu
    split at hb
    · rename_i z ie hz hie
      obtain ⟨us', h1, h2⟩ := fill_sound (R := RV (cx w0 I s.st w η)) (fun u x h => h.cells) (ρ := ev s.env) (ρ' := a.eval) (fun x => h.eval x) (fun i => some (i * ie.size, ie.size)) ps _ cs z.cells.toList hb (PW.consts _ fun v => .s _)
      refine ⟨.agg us'.toArray, run_build w t _ us'.toArray ?_, rv_agg _ _ h2⟩
      simpa [Program.built, hi, hu, hz, hie] using h1
    · cases hb
  · rename_i it fs hi hu
    split at hb
    · rename_i z places hz hpl
      obtain ⟨us', h1, h2⟩ := fill_sound (R := RV (cx w0 I s.st w η)) (fun u x h => h.cells) (ρ := ev s.env) (ρ' := a.eval) (fun x => h.eval x) (places.toArray[·]?) ps _ cs z.cells.toList hb (PW.consts _ fun v => .s _)
      refine ⟨.agg us'.toArray, run_build w t _ us'.toArray ?_, rv_agg _ _ h2⟩
      simpa [Program.built, hi, hu, hz, hpl] using h1
    · cases hb
  · cases hb

/-- a row that is new: place d -/
theorem Rel.row (h : Rel w0 I n ⟨env, st⟩ a w η) {w' : World} {d sz e : Nat} {l : List V} {v' : Value} {us : List Value} (hg : w.grownBy w' none) (ho : OwnRow w' e sz v' l.length us)
    (hb : ∀ g, blkOf v' = some g → w.heap.size ≤ g) (hu : ∀ x ∈ l, x.cells.length = sz) (hp : PW (RC w (cx w0 I st w η).own (cx w0 I st w η).fresh true) us (flat l)) (h1 : ∀ u ∈ us, u.oneCell' = true) :
    ∃ η', Rel w0 I n ⟨env, ups st [(d, ⟨(st d).ver + 1, .row sz e l⟩)]⟩ a w' η' ∧ RV (cx w0 I (ups st [(d, ⟨(st d).ver + 1, .row sz e l⟩)]) w' η') v' (.sw d ((st d).ver + 1) l.length) := by
  refine ⟨upd η d v', ?_⟩
  obtain ⟨h2, hle⟩ := h.step (st' := ups st [(d, ⟨(st d).ver + 1, .row sz e l⟩)]) (w' := w') (η' := upd η d v') (fun b => b = d)
    hg.os hg.tape hg.output hg.size (fun b hb => by simp [ups, upd, hb]) (fun b hb => by subst hb; simp [ups, upd]) (fun b hb _ => by subst hb; simp [ups, upd])
    (fun g hlt hne => absurd (hg.block g hlt (by simp)) hne)
    (fun b g hbd _ hgb => by subst hbd; simp [upd] at hgb; exact .inl (hb g hgb))
    (fun b b' g hb hb' _ _ _ _ => hb.trans hb'.symm)
    (fun hle b hbd _ => by
      subst hbd
      simp only [ups, upd, if_pos]
      exact ⟨us, ho, hu, hp.imp fun u x hx => by have := hx.mono hle.cells; rw [← hle.fresh] at this; exact this, h1⟩)
  refine ⟨h2, .sw d _ _ _ ?_ (by simp [cx, ups, upd]) fun v0 hv0 => ?_⟩
  · rcases ho.2 with ⟨rfl, h0⟩ | ⟨g, o, cap, cur, fz, rfl, _⟩
    · rw [h0]; exact ⟨_, _, rfl⟩
    · exact ⟨_, _, rfl⟩
  · simp [cx, ups, upd, Cont.live] at hv0
    exact hv0

/-- .. of cells that may be one's own, too -/
theorem Rel.rowV (h : Rel w0 I n ⟨env, st⟩ a w η) {w' : World} {d sz e : Nat} {l : List V} {v' : Value} {us : List Value} (hg : w.grownBy w' none) (ho : OwnRow w' e sz v' l.length us)
    (hb : ∀ g, blkOf v' = some g → w.heap.size ≤ g) (hu : ∀ x ∈ l, x.cells.length = sz) (hp : PW (RV (cx w0 I st w η)) us (flat l)) (h1 : ∀ u ∈ us, u.oneCell' = true) :
    ∃ η', Rel w0 I n ⟨env, ups st [(d, ⟨(st d).ver + 1, .rowV sz e l⟩)]⟩ a w' η' ∧ RV (cx w0 I (ups st [(d, ⟨(st d).ver + 1, .rowV sz e l⟩)]) w' η') v' (.sw d ((st d).ver + 1) l.length) := by
  refine ⟨upd η d v', ?_⟩
  obtain ⟨h2, hle⟩ := h.step (st' := ups st [(d, ⟨(st d).ver + 1, .rowV sz e l⟩)]) (w' := w') (η' := upd η d v') (fun b => b = d)
    hg.os hg.tape hg.output hg.size (fun b hb => by simp [ups, upd, hb]) (fun b hb => by subst hb; simp [ups, upd]) (fun b hb _ => by subst hb; simp [ups, upd])
    (fun g hlt hne => absurd (hg.block g hlt (by simp)) hne)
    (fun b g hbd _ hgb => by subst hbd; simp [upd] at hgb; exact .inl (hb g hgb))
    (fun b b' g hb hb' _ _ _ _ => hb.trans hb'.symm)
    (fun hle b hbd _ => by
      subst hbd
      simp only [ups, upd, if_pos]
      exact ⟨us, ho, hu, hp.imp fun u x hx => hx.mono hle, h1⟩)
  refine ⟨h2, .sw d _ _ _ ?_ (by simp [cx, ups, upd]) fun v0 hv0 => ?_⟩
  · rcases ho.2 with ⟨rfl, h0⟩ | ⟨g, o, cap, cur, fz, rfl, _⟩
    · rw [h0]; exact ⟨_, _, rfl⟩
    · exact ⟨_, _, rfl⟩
  · simp [cx, ups, upd, Cont.live] at hv0
    exact hv0
/-- memory grows by what nobody names -/
theorem Rel.grow (h : Rel w0 I n ⟨env, st⟩ a w η) {w' : World} (hg : w.grownBy w' none) : Rel w0 I n ⟨env, st⟩ a w' η :=
  (h.step (st' := st) (w' := w') (η' := η) (fun _ => False) hg.os hg.tape hg.output hg.size (fun _ _ => ⟨rfl, rfl⟩) (fun _ h => h.elim) (fun _ h => h.elim)
    (fun g hlt hne => absurd (hg.block g hlt (by simp)) hne) (fun _ _ h => h.elim) (fun _ _ _ h => h.elim) (fun _ _ h => h.elim)).1

theorem scal_cells {x : V} (h : x.scal = true) : ∀ y ∈ x.cells, ∃ v, y = .s v := by
  intro y hy
  cases x <;> simp only [V.scal, reduceCtorEq, Bool.false_eq_true] at h
  case s v => cases v <;> simp [V.cells] at hy <;> first | exact ⟨_, hy⟩ | (obtain ⟨q, _, rfl⟩ := hy; exact ⟨_, rfl⟩)
  case agg l =>
    have := List.all_eq_true.1 h y hy
    split at this
    · exact ⟨_, rfl⟩
    · cases this
theorem scal_flat {l : List V} (h : l.all V.scal = true) : ∀ y ∈ flat l, ∃ v, y = .s v := by
  intro y hy
  simp only [flat, List.mem_flatMap] at hy
  obtain ⟨x, hx, hy⟩ := hy
  exact scal_cells (List.all_eq_true.1 h x hx) y hy
theorem scal_RC {own fresh own' fresh' : Nat → Prop} {k k' : Bool} {w w' : World} {us : List Value} {l : List V} (h : l.all V.scal = true) (hp : PW (RC w own fresh k) us (flat l)) : PW (RC w' own' fresh' k') us (flat l) :=
  hp.impm fun u x hx hr => by
    obtain ⟨v, rfl⟩ := scal_flat h x hx
    cases hr
    exact .s _ _

theorem append_sound (h : Rel w0 I n ⟨env, st⟩ a w η) {d : Nat} {t : TypeId} {x y z : V} {u v : Value} {us : List (Nat × Blk)} (ha : appendV P st d t x y = some (z, us)) (hu : RV (cx w0 I st w η) u x) (hv : RV (cx w0 I st w η) v y) (ty : TypeId) :
    ∃ r w' η', (Builtin.append_ #[t, t] ty #[u, v]).run P w = .ok r w' ∧ Rel w0 I n ⟨env, ups st us⟩ a w' η' ∧ RV (cx w0 I (ups st us) w' η') r z := by
  unfold appendV at ha
  split at ha
  case h_2 => cases ha
  rename_i e ht
  obtain ⟨sz, hsz, h2⟩ := Option.bind_eq_some_iff.1 ha
  obtain ⟨by_, hby, h3⟩ := Option.bind_eq_some_iff.1 h2
  obtain ⟨⟨ok, ys⟩, hys, h4⟩ := Option.bind_eq_some_iff.1 h3
  simp only at h4
  split at h4
  case isFalse => cases h4
  rename_i hc
  obtain ⟨hok, hsz0, hby0, hz⟩ := hc
  clear ha h2 h3
  -- the type of an element
  obtain ⟨zv, hzv, hzs⟩ : ∃ zv, zeroOf P e = some zv ∧ zv.cells.size = sz := by
    unfold zOk at hz
    split at hz
    · exact ⟨_, by assumption, by simpa using hz⟩
    · cases hz
  have hinfo : (P.info? e).map (fun i => (i.zero, i.size, i.bytes)) = some (some zv, sz, by_) := by
    unfold szOf at hsz
    unfold bytesOf at hby
    unfold zeroOf at hzv
    cases hi : P.info? e with
    | none => simp [hi] at hsz
    | some i =>
      simp [hi] at hsz hby hzv
      simp [hsz, hby, hzv]
  -- what is appended
  obtain ⟨A, cp, vs, hvv, hlen, hun, hpw, h1, hcell⟩ : ∃ A cp vs, v = .slice A ys.length cp ∧ ys.length ≤ cp ∧ (∀ x ∈ ys, x.cells.length = sz) ∧ PW (RC w (cx w0 I st w η).own (cx w0 I st w η).fresh true) vs (flat ys) ∧ (∀ u ∈ vs, u.oneCell' = true) ∧ Rd w A vs := by
    split at hys
    · simp only [Option.some.injEq, Prod.mk.injEq] at hys
      obtain ⟨rfl, rfl⟩ := hys
      exact ⟨none, 0, [], hv.s_inv, Nat.le_refl _, fun x hx => by simp at hx, PW.nil, fun u hu => by simp at hu, .inl rfl⟩
    · obtain ⟨⟨sz', fr, l⟩, hel, h5⟩ := Option.bind_eq_some_iff.1 hys
      simp only at h5
      split at h5
      case isFalse => cases h5
      rename_i hss
      subst hss
      simp only [Option.some.injEq, Prod.mk.injEq] at h5
      obtain ⟨rfl, rfl⟩ := h5
      obtain ⟨A, cp, vs, e1, e2, e3, e4, e5, e6⟩ := elems_sound h hv hel
      refine ⟨A, cp, vs, e1, e2, e3, ?_, e5, ?_⟩
      · simp only [Bool.or_eq_true] at hok
        rcases hok with rfl | hok
        · exact e4
        · exact scal_RC hok e4
      · rcases e6 with e6 | ⟨g, o, e7, e8⟩
        · exact .inl e6
        · exact .inr ⟨g, o, e7, e8⟩
  subst hvv
  have hvl : vs.length = ys.length * sz := by rw [hpw.1]; exact flat_len ys hun
  split at h4
  · -- to nothing
    split at h4
    case isFalse => cases h4
    rename_i hfit
    simp only [Option.some.injEq, Prod.mk.injEq] at h4
    obtain ⟨rfl, rfl⟩ := h4
    rw [hu.s_inv]
    obtain ⟨r, w', hr, ho, hg, hbl⟩ := run_append_rd' (P := P) w t ty e zv sz by_ ht hinfo hzs hsz0 hby0 (.slice none 0 0) 0 [] (OwnRow.nil w e sz) A ys.length cp vs hcell hvl h1 (by simpa [fits] using hfit)
    rw [Nat.zero_add, List.nil_append] at ho
    have hbk : ∀ g, blkOf r = some g → w.heap.size ≤ g := fun g hgb => by
      rcases hbl with hbl | hbl <;> rw [hbl] at hgb <;> simp [blkOf] at hgb
      omega
    obtain ⟨η', h6, h7⟩ := h.row (d := d) (w' := w') (v' := r) hg ho hbk hun hpw h1
    exact ⟨r, w', η', hr, h6, h7⟩
  · -- to a row of one's own
    rename_i x _
    obtain ⟨⟨b, ver, sz', e', l⟩, hb, h5⟩ := Option.bind_eq_some_iff.1 h4
    simp only at h5
    split at h5
    case isFalse => cases h5
    rename_i hcc
    obtain ⟨rfl, rfl, hfit⟩ := hcc
    simp only [Option.some.injEq, Prod.mk.injEq] at h5
    obtain ⟨rfl, rfl⟩ := h5
    obtain ⟨hver, ⟨l0, hcont⟩, hblk, hrow⟩ := own_sound h hu hb
    simp only at hver hcont
    obtain ⟨us0, ho0, hu0, hp0, h10⟩ := hrow
    obtain ⟨r, w', hr, ho, hg, hbl⟩ := run_append_rd' (P := P) w t ty e' zv sz' by_ ht hinfo hzs hsz0 hby0 u l.length us0 ho0 A ys.length cp vs hcell hvl h1 hfit
    have hlive : (st b).c.live = true := by rw [hcont]; rfl
    obtain ⟨h6, hle⟩ := h.step (st' := ups st [(b, ⟨ver + 1, .row sz' e' (l ++ ys)⟩)]) (w' := w') (η' := upd η b r) (fun j => j = b)
      hg.os hg.tape hg.output hg.size (fun j hj => by simp [ups, upd, hj]) (fun j hj => by subst hj; simp [ups, upd, hver]) (fun j hj _ => by subst hj; simp [ups, upd, hver])
      (fun g hlt hne => ⟨b, rfl, hlive, by
        rw [← hblk]
        refine Classical.byContradiction fun hnn => hne (hg.block g hlt fun e => hnn e.symm)⟩)
      (fun j g hj _ hgb => by
        subst hj
        simp [upd] at hgb
        rcases hbl with hbl | hbl
        · rw [hbl, hblk] at hgb
          exact .inr ⟨j, rfl, hlive, hgb⟩
        · rw [hbl] at hgb
          simp at hgb
          exact .inl (by omega))
      (fun j j' g hj hj' _ _ _ _ => hj.trans hj'.symm)
      (fun hle j hj _ => by
        subst hj
        simp only [ups, upd, if_pos]
        refine ⟨us0 ++ vs, by rw [List.length_append]; exact ho, fun x hx => ?_, ?_, fun u hu => ?_⟩
        · rcases List.mem_append.1 hx with hx | hx
          · exact hu0 x hx
          · exact hun x hx
        · rw [flat_app]
          refine PW.append (hp0.imp fun u x hx => ?_) (hpw.imp fun u x hx => ?_) <;> (have := hx.mono hle.cells; rw [← hle.fresh] at this; exact this)
        · rcases List.mem_append.1 hu with hu | hu
          · exact h10 u hu
          · exact h1 u hu)
    refine ⟨r, w', _, hr, h6, .sw b _ _ _ ?_ (by simp [cx, ups, upd]) fun v0 hv0 => ?_⟩
    · rcases ho.2 with ⟨h', h0⟩ | ⟨g, o, cap, cur, fz, h', _⟩
      · exact ⟨none, 0, by rw [h', h0]⟩
      · exact ⟨_, _, h'⟩
    · simp [cx, ups, upd, Cont.live] at hv0
      exact hv0
end

end Go.Proofs.YtkfmecmmbnehjaaGreat
namespace Go.Proofs.YtkfmecmmbnehjaaGreat
set_option linter.unusedSimpArgs false
set_option linter.unusedVariables false

section
variable {P : Program} {w0 w : World} {I : Ow} {n : Nat} {s : S} {env : Nat → V} {st : Nat → Blk} {a : Act} {η : Nat → Value}

theorem fillC_all {sz : Nat} : ∀ (xs : List V) (k : Nat) (C : List V), (∀ x ∈ xs, x.cells.length = sz) → (k + xs.length) * sz ≤ C.length →
    fillC (fun i => some (i * sz, sz)) C ((List.range' k xs.length).zip xs) = some (C.take (k * sz) ++ flat xs ++ C.drop ((k + xs.length) * sz))
  | [], k, C, _, _ => by simp [fillC, flat]
  | x :: xs, k, C, hu, hl => by
    have hx := hu x (by simp)
    have hk : (k + (xs.length + 1)) * sz = k * sz + sz + xs.length * sz := by rw [Nat.add_mul, Nat.add_mul]; omega
    simp only [List.length_cons] at hl
    rw [hk] at hl
    have hsl : (spl C (k * sz) x.cells).length = C.length := by
      simp only [spl, List.length_append, List.length_take, List.length_drop]; omega
    have hk1 : (k + 1) * sz = k * sz + sz := by rw [Nat.add_mul]; omega
    have ih := fillC_all xs (k + 1) (spl C (k * sz) x.cells) (fun y hy => hu y (by simp [hy])) (by rw [hsl, Nat.add_mul, hk1]; omega)
    simp only [List.length_cons, List.range'_succ, List.zip_cons_cons, fillC]
    rw [if_pos ⟨hx, by omega⟩, ih]
    congr 1
    have e1 : (spl C (k * sz) x.cells).take ((k + 1) * sz) = C.take (k * sz) ++ x.cells := by
      rw [hk1]
      simp only [spl]
      rw [List.take_append_of_le_length (by simp only [List.length_append, List.length_take]; omega)]
      rw [List.take_of_length_le (by simp only [List.length_append, List.length_take]; omega)]
    have e2 : (spl C (k * sz) x.cells).drop ((k + 1 + xs.length) * sz) = C.drop ((k + (xs.length + 1)) * sz) := by
      have : (k + 1 + xs.length) * sz = k * sz + sz + xs.length * sz := by rw [Nat.add_mul, hk1]
      rw [this, hk]
      simp only [spl]
      have hlen : (List.take (k * sz) C ++ x.cells).length = k * sz + sz := by simp only [List.length_append, List.length_take]; omega
      rw [List.drop_append, hlen, List.drop_eq_nil_of_le (by rw [hlen]; omega), List.nil_append, List.drop_drop]
      congr 1
      omega
    rw [e1, e2]
    simp [flat]

theorem clo_cells {x y : V} (h : x.clo true = true) (hy : y ∈ x.cells) : y.clo true = true := by
  cases x
  case s v => cases v <;> simp [V.cells] at hy <;> first | (subst hy; rfl) | (obtain ⟨q, _, rfl⟩ := hy; rfl)
  case agg l =>
    obtain ⟨i, hi⟩ := List.getElem?_of_mem hy
    exact cloL_get (l := l) (by simpa only [V.clo] using h) (by simpa only [V.cells] using hi)
  all_goals (simp [V.cells] at hy; subst hy; exact h)

theorem flat_unfr (l : List V) : flat (l.map V.unfr) = (flat l).map V.unfr := by
  induction l with
  | nil => rfl
  | cons x l ih =>
    simp only [flat, List.map_cons, List.flatMap_cons, List.map_append] at *
    rw [unfr_cells, unfrL_map, ih]

theorem buildSlice_sound (h : Rel w0 I n ⟨env, st⟩ a w η) {d : Nat} {t : TypeId} {len : Nat} {ps : List (Nat × Operand)} {z : V} {us : List (Nat × Blk)} (hb : buildSliceV P st d t len (ps.map fun p => (p.1, ev env p.2)) = some (z, us)) :
    ∃ r w' η', (Instr.buildSlice t len (ps.map fun p => (p.1, a.eval p.2)).toArray).run P w = .ok r w' ∧ Rel w0 I n ⟨env, ups st us⟩ a w' η' ∧ RV (cx w0 I (ups st us) w' η') r z := by
  unfold buildSliceV at hb
  split at hb
  case h_2 => cases hb
  rename_i e ht
  obtain ⟨sz, hsz, h2⟩ := Option.bind_eq_some_iff.1 hb
  split at h2
  case isFalse =>
    split at h2
    case isFalse => cases h2
    rename_i hc
    obtain ⟨rfl, hpe, hsz0⟩ := hc
    simp only [Option.some.injEq, Prod.mk.injEq] at h2
    obtain ⟨rfl, rfl⟩ := h2
    have hps : ps = [] := by simpa using hpe
    subst hps
    refine ⟨.slice (some ⟨w.heap.size, 0, none⟩) 0 0, w.alloc (.cells #[] e), η, ?_, h.grow (World.grownBy_alloc w _ none), .lst true sz [] _ (.lst true true sz [] _ 0 [] (Nat.le_refl _) (fun x hx => by cases hx) rfl (fun i u x hu _ => by simp at hu) (fun u hu => by cases hu) (.inl rfl))⟩
    simp only [Instr.buildSlice, Sem.run_bind, run_underlying ht, Result.andThen_ok, run_sizeOf' hsz]
    simp [Instr.fill, newRow]
    exact congrArg (fun c => w.alloc (Obj.cells c e)) (Array.eq_empty_of_size_eq_zero (by simp))
  rename_i hc
  obtain ⟨hidx, hsz0, hsmall, hlen0, hzs⟩ := hc
  clear hb
  generalize hxs : ps.map (fun p => ev env p.2) = xs
  have hpl : (ps.map fun p => (p.1, ev env p.2)) = (List.range' 0 xs.length).zip xs := by
    have e1 : (ps.map fun p => (p.1, ev env p.2)) = (ps.map (·.1)).zip (ps.map fun p => ev env p.2) := by
      clear hxs hidx h2
      induction ps with
      | nil => rfl
      | cons p ps ih => simp [ih]
    have e2 : ps.map (·.1) = List.range len := by simpa [Function.comp_def] using hidx
    have e3 : xs.length = len := by
      have := congrArg List.length e2
      rw [← hxs]; simpa using this
    rw [e1, e2, hxs, e3, List.range_eq_range']
  have hxl : xs.length = len := by
    have e2 : ps.map (·.1) = List.range len := by simpa [Function.comp_def] using hidx
    have := congrArg List.length e2
    rw [← hxs]; simpa using this
  have hx : ∀ x ∈ xs, x.cells.length = sz ∧ x.cells.all V.one = true := fun x hx => by
    rw [← hxs] at hx
    obtain ⟨p, hp, rfl⟩ := List.mem_map.1 hx
    split at h2
    · rename_i hall
      have := List.all_eq_true.1 hall (p.1, ev env p.2) (List.mem_map.2 ⟨p, hp, rfl⟩)
      simp only [Bool.and_eq_true, decide_eq_true_eq] at this
      exact this.1
    · split at h2
      · rename_i hall
        have := List.all_eq_true.1 hall (p.1, ev env p.2) (List.mem_map.2 ⟨p, hp, rfl⟩)
        simp only [Bool.and_eq_true, decide_eq_true_eq] at this
        exact this
      · cases h2
  obtain ⟨zv, hzv⟩ := Option.isSome_iff_exists.1 hzs
  obtain ⟨Z, hZ, hZs⟩ : ∃ Z : List Value, Z.length = len * sz ∧ ((Array.range (len * sz)).map (zv.cells[· % zv.cells.size]!)) = Z.toArray := ⟨((Array.range (len * sz)).map (zv.cells[· % zv.cells.size]!)).toList, by simp, (Array.toArray_toList).symm⟩
  have hfc := fillC_all (sz := sz) xs 0 (Z.map .s) (fun x hx' => (hx x hx').1) (by simp [hZ, hxl])
  rw [← hpl] at hfc
  obtain ⟨us', hu1, hu2⟩ := fill_sound (R := RV (cx w0 I st w η)) (fun u x h => h.cells) (ρ := ev env) (ρ' := a.eval) (fun x => h.eval x) (fun i => some (i * sz, sz)) ps _ _ Z hfc (PW.consts _ fun v => .s _)
  have hfl : List.take (0 * sz) (Z.map V.s) ++ flat xs ++ List.drop ((0 + xs.length) * sz) (Z.map V.s) = flat xs := by
    rw [List.drop_eq_nil_of_le (by simp [hZ, hxl])]; simp
  rw [hfl] at hu2
  have hrun : (Instr.buildSlice t len (ps.map fun p => (p.1, a.eval p.2)).toArray).run P w = .ok (.slice (some ⟨w.heap.size, 0, none⟩) len len) (w.alloc (.cells us'.toArray e)) := by
    have hn0 : ¬ len * sz = 0 := by
      intro h0
      rcases Nat.mul_eq_zero.1 h0 with h | h <;> omega
    have hbig : ¬ len * sz > 2 ^ 24 := by simp; omega
    obtain ⟨i, hi, hiz⟩ : ∃ i, P.info? e = some i ∧ i.zero = some zv := by
      unfold zeroOf at hzv
      obtain ⟨i, hi, h'⟩ := Option.bind_eq_some_iff.1 hzv
      exact ⟨i, hi, h'⟩
    simp only [Instr.buildSlice, Sem.run_bind, run_underlying ht, Result.andThen_ok, run_sizeOf' hsz, if_neg hbig, if_neg hn0, zeroValue, typeInfo]
    simp [hi, hiz, hZs, hu1, newRow]
  have hone : ∀ u ∈ us', u.oneCell' = true := fun u hu => by
    obtain ⟨i, hi⟩ := List.getElem?_of_mem hu
    obtain ⟨y, hy, hr⟩ := hu2.getl hi
    have hy' := List.mem_of_getElem? hy
    simp only [flat, List.mem_flatMap] at hy'
    obtain ⟨x, hx1, hx2⟩ := hy'
    exact hr.one (List.all_eq_true.1 (hx x hx1).2 y hx2)
  split at h2
  case isFalse =>
    split at h2
    case isFalse => cases h2
    simp only [Option.some.injEq, Prod.mk.injEq] at h2
    obtain ⟨rfl, rfl⟩ := h2
    have hus : us'.length = len * sz := by rw [hu2.1, flat_len (sz := sz) _ (fun x hx' => (hx x hx').1), hxl]
    have e4 : ((ps.map fun p => (p.1, ev env p.2)).map fun p => p.2) = xs := by rw [← hxs]; simp [Function.comp_def]
    rw [e4]
    obtain ⟨η', h6, h7⟩ := h.rowV (d := d) (sz := sz) (e := e) (l := xs) (w' := w.alloc (.cells us'.toArray e)) (v' := .slice (some ⟨w.heap.size, 0, none⟩) len len) (us := us') (World.grownBy_alloc w _ none)
      ⟨by rw [hus, hxl], .inr ⟨w.heap.size, 0, len, us'.toArray, (0, 0), by rw [hxl], heap_alloc_new w _, .inl rfl, by rw [hxl]; exact Nat.le_refl _, by
        have := Nat.le_mul_of_pos_right len hsz0
        simp only [maxLen]; omega, by simp [hus], by rw [hxl]; simp [← hus]⟩⟩
      (fun g hg => by simp [blkOf] at hg; omega) (fun x hx' => (hx x hx').1) hu2 hone
    rw [hxl] at h7
    exact ⟨_, _, η', hrun, h6, h7⟩
  rename_i hall
  simp only [Option.some.injEq, Prod.mk.injEq] at h2
  obtain ⟨rfl, rfl⟩ := h2
  have hcl : ∀ x ∈ xs, x.clo true = true := fun x hx => by
    rw [← hxs] at hx
    obtain ⟨p, hp, rfl⟩ := List.mem_map.1 hx
    have := List.all_eq_true.1 hall (p.1, ev env p.2) (List.mem_map.2 ⟨p, hp, rfl⟩)
    simp only [Bool.and_eq_true, decide_eq_true_eq] at this
    exact this.2
  have hpw : PW (RC w (cx w0 I st w η).own (cx w0 I st w η).fresh true) us' (flat (xs.map V.unfr)) := by
    rw [flat_unfr]
    refine ⟨by rw [hu2.1]; simp, fun i u y hu hy => ?_⟩
    rw [List.getElem?_map] at hy
    obtain ⟨y0, hy0, rfl⟩ := Option.map_eq_some_iff.1 hy
    have hr := hu2.2 i u y0 hu hy0
    have hy' := List.mem_of_getElem? hy0
    simp only [flat, List.mem_flatMap] at hy'
    obtain ⟨x, hx1, hx2⟩ := hy'
    have hcl2 := clo_cells (hcl x hx1) hx2
    exact (hr.clo hcl2).unfr
  have hlm : (xs.map V.unfr).length = len := by simp [hxl]
  have hus : us'.length = len * sz := by
    rw [hpw.1, flat_len (sz := sz) _ (fun x hx' => ?_), hlm]
    obtain ⟨y, hy, rfl⟩ := List.mem_map.1 hx'
    rw [unfr_cells, unfrL_len]; exact (hx y hy).1
  have e4 : ((ps.map fun p => (p.1, ev env p.2)).map fun p => p.2.unfr) = xs.map V.unfr := by rw [← hxs]; simp [Function.comp_def]
  rw [e4]
  obtain ⟨η', h6, h7⟩ := h.row (d := d) (sz := sz) (e := e) (l := xs.map V.unfr) (w' := w.alloc (.cells us'.toArray e)) (v' := .slice (some ⟨w.heap.size, 0, none⟩) len len) (us := us') (World.grownBy_alloc w _ none)
    ⟨by rw [hus, hlm], .inr ⟨w.heap.size, 0, len, us'.toArray, (0, 0), by rw [hlm], heap_alloc_new w _, .inl rfl, by rw [hlm]; exact Nat.le_refl _, by
      have := Nat.le_mul_of_pos_right len hsz0
      simp only [maxLen]; omega, by simp [hus], by rw [hlm]; simp [← hus]⟩⟩
    (fun g hg => by simp [blkOf] at hg; omega) (fun x hx' => by
      obtain ⟨y, hy, rfl⟩ := List.mem_map.1 hx'
      rw [unfr_cells, unfrL_len]; exact (hx y hy).1) hpw hone
  rw [hlm] at h7
  exact ⟨_, _, η', hrun, h6, h7⟩

theorem make_sound (h : Rel w0 I n ⟨env, st⟩ a w η) {d : Nat} {t : TypeId} {m : Int} {z : V} {us : List (Nat × Blk)} (hb : makeV P st d t m = some (z, us)) :
    ∃ r w' η', (Instr.makeSlice t (.int .i64 m) (.int .i64 m)).run P w = .ok r w' ∧ Rel w0 I n ⟨env, ups st us⟩ a w' η' ∧ RV (cx w0 I (ups st us) w' η') r z := by
  unfold makeV at hb
  split at hb
  case h_2 => cases hb
  rename_i e ht
  obtain ⟨by_, hby, h2⟩ := Option.bind_eq_some_iff.1 hb
  obtain ⟨zv, hzv, h3⟩ := Option.bind_eq_some_iff.1 h2
  split at h3
  case isFalse => cases h3
  rename_i hc
  obtain ⟨h0, hbig, hsm, hz, hsz, hz1⟩ := hc
  simp only [Option.some.injEq, Prod.mk.injEq] at h3
  obtain ⟨rfl, rfl⟩ := h3
  clear hb h2
  have hw : IntKind.i64.wrap m = m := by rw [IntKind.wrap_i64]; omega
  obtain ⟨i, hi, hisz⟩ := szOf_info hsz
  have hiz : i.zero = some zv := by
    unfold zeroOf at hzv
    rw [hi] at hzv
    simpa using hzv
  have hib : i.bytes = by_ := by
    unfold bytesOf at hby
    rw [hi] at hby
    simpa using hby
  have hcells : zv.cells = #[zv] := by
    cases zv <;> simp_all [Value.cells, Value.oneCell']
  generalize hN : m.toNat = N
  have hmN : m = N := by omega
  subst hmN
  have harr : ((Array.range N).map ((if N = 0 then (#[] : Array Value) else zv.cells)[· % (if N = 0 then (#[] : Array Value) else zv.cells).size]!)) = (List.replicate N zv).toArray := by
    by_cases hN0 : N = 0
    · subst hN0; simp
    · apply Array.toList_inj.1
      simp only [hN0, if_false, hcells]
      apply List.ext_getElem
      · simp
      · intro q h1 h2
        simp [Nat.mod_one]
  have hrun : (Instr.makeSlice t (.int .i64 N) (.int .i64 N)).run P w = .ok (.slice (some ⟨w.heap.size, 0, none⟩) N N) (w.alloc (.cells (List.replicate N zv).toArray e)) := by
    have e1 : ¬ ((N : Int) < 0) := by omega
    have e2 : ¬ (281474976710656 < (by_ : Int) * N) := by
      have : (by_ : Int) * N = N * by_ := Int.mul_comm _ _
      rw [this]; omega
    by_cases hN0 : N = 0
    · subst hN0
      have hw0 : IntKind.i64.wrap 0 = 0 := rfl
      simp [Instr.makeSlice, run_underlying ht, asInt, asIntOf, typeInfo, run_sizeOf' hsz, hi, hw0, hib, newRow, askRoom, (show Array.range 0 = #[] from by simp)]
    · simp only [hN0, if_false] at harr
      simp [Instr.makeSlice, run_underlying ht, asInt, asIntOf, typeInfo, run_sizeOf' hsz, hi, hw, hib, newRow, askRoom, e1, e2, hN0, zeroValue, hiz]
      congr 2
  have hl : (List.replicate N (V.s zv)).length = N := by simp
  obtain ⟨η', h6, h7⟩ := h.row (d := d) (sz := 1) (e := e) (l := List.replicate N (.s zv)) (w' := w.alloc (.cells (List.replicate N zv).toArray e)) (v' := .slice (some ⟨w.heap.size, 0, none⟩) N N) (us := List.replicate N zv) (World.grownBy_alloc w _ none)
    ⟨by simp, .inr ⟨w.heap.size, 0, N, (List.replicate N zv).toArray, (0, 0), by rw [hl], heap_alloc_new w _, .inl rfl, by rw [hl]; exact Nat.le_refl _, by simp only [maxLen]; omega, by simp, by rw [hl]; simp⟩⟩
    (fun g hg => by simp [blkOf] at hg; omega) (fun x hx' => by
      rw [List.mem_replicate] at hx'
      rw [hx'.2]
      have := one_cells0 (x := V.s zv) (by simpa [V.one] using hz1)
      rw [this]; rfl) (by
      have hfl : flat (List.replicate N (V.s zv)) = List.replicate N (V.s zv) := flat_s _ fun x hx => by
        rw [List.mem_replicate] at hx
        rw [hx.2]
        exact one_cells0 (by simpa [V.one] using hz1)
      rw [hfl]
      have := PW.consts (R := RC w (cx w0 I st w η).own (cx w0 I st w η).fresh true) (List.replicate N zv) (fun v => .s true v)
      rwa [List.map_replicate] at this) (fun u hu => by rw [List.mem_replicate] at hu; rw [hu.2]; exact hz1)
  rw [hl] at h7
  exact ⟨_, _, η', hrun, h6, h7⟩

theorem iface_sound {t : TypeId} {x z : V} {u : Value} {c : Cx} (h : ifaceV P t x = some z) (hu : RV c u x) (w : World) : ∃ r, (Instr.makeInterface t u).run P w = .ok r w ∧ RV c r z := by
  unfold ifaceV at h
  split at h
  · rw [hu.s_inv]
    split at h
    · cases h
    · rename_i d hne hd
      simp only [Option.some.injEq] at h
      subst h
      refine ⟨_, ?_, .s _⟩
      cases d <;> first | (simp [Instr.makeInterface, run_underlying hd]; done) | exact (hne _ rfl).elim
    · cases h
  · cases h
theorem assert_sound {t xt : TypeId} {ok : Bool} {x z : V} {u : Value} {c : Cx} (h : assertV P t ok x = some z) (hu : RV c u x) (w : World) : ∃ r, (Instr.typeAssert u xt t ok).run P w = .ok r w ∧ RV c r z := by
  have tup : ∀ (a b : Value), RV c (.tuple #[a, b]) (.tup [.s a, .s b]) := fun a b => .tup [a, b] _ rfl fun i u x hu hx => by
    match i with
    | 0 => simp at hu hx; subst hu; subst hx; exact .s _
    | 1 => simp at hu hx; subst hu; subst hx; exact .s _
    | i + 2 => simp at hu
  have zv : ∀ zz, zeroOf P t = some zz → (zeroValue t).run P w = .ok zz w := fun zz hz => by
    unfold zeroOf at hz
    obtain ⟨i, hi, hiz⟩ := Option.bind_eq_some_iff.1 hz
    simp [zeroValue, typeInfo, hi, hiz]
  unfold assertV at h
  split at h
  · rw [hu.s_inv]
    split at h
    · cases h
    · rename_i d hne hd
      split at h
      case isFalse => cases h
      rename_i hok
      subst hok
      obtain ⟨zz, hz, rfl⟩ := Option.map_eq_some_iff.1 h
      refine ⟨.tuple #[zz, .bool false], ?_, tup _ _⟩
      cases d <;> first | (simp [Instr.typeAssert, run_underlying hd, zv zz hz]; done) | exact (hne _ rfl).elim
    · cases h
  · rename_i t' v
    rw [hu.s_inv]
    split at h
    · cases h
    · rename_i d hne hd
      split at h
      · rename_i htt
        subst htt
        split at h
        · rename_i hok
          subst hok
          simp only [Option.some.injEq] at h
          subst h
          refine ⟨.tuple #[v, .bool true], ?_, tup _ _⟩
          cases d <;> first | (simp [Instr.typeAssert, run_underlying hd]; done) | exact (hne _ rfl).elim
        · rename_i hok
          simp only [Option.some.injEq] at h
          subst h
          refine ⟨v, ?_, .s _⟩
          cases d <;> first | (simp [Instr.typeAssert, run_underlying hd, hok]; done) | exact (hne _ rfl).elim
      · rename_i htt
        split at h
        case isFalse => cases h
        rename_i hok
        subst hok
        obtain ⟨zz, hz, rfl⟩ := Option.map_eq_some_iff.1 h
        refine ⟨.tuple #[zz, .bool false], ?_, tup _ _⟩
        cases d <;> first | (simp [Instr.typeAssert, run_underlying hd, zv zz hz, htt]; done) | exact (hne _ rfl).elim
    · cases h
  · cases h
end

end Go.Proofs.YtkfmecmmbnehjaaGreat
