/-
The reference's Side and Closed by the plain reckoning. No condition.
-/
import Derived.Test.YtkfmecmmbnehjaaGreatO9
namespace Go.Proofs.YtkfmecmmbnehjaaGreat
set_option linter.unusedSimpArgs false
set_option linter.unusedVariables false

theorem rowned_impl : Impl Tryz.prog 66 spOn := by
  refine impl_walk mixed cOwn6_ok eqT_ok Tryz.func66 rfl Tryz.ntmps66 (by kernel_rfl) ?_
  intro xs r h
  unfold spOn at h
  simp only at h
  (try split at h) <;> try (cases (show none = some r from h); done)
  rename_i y r
  obtain ⟨o, ho, h2⟩ := Option.bind_eq_some_iff.1 h
  clear h
  cases h2
  obtain ⟨rfl, hlen⟩ := ownOf_eq ho
  clear ho
  refine ⟨by simp [ownV], ?_⟩
  unfold onI
  by_cases c1 : r < 1
  · have g1 : decide (r < 1) = true := by simp [c1]
    rw [if_pos (.inl c1)]
    simp only [go_sem, seval, eq_self, reduceCtorEq, ownV, g1]
    repeat' ((first | (refine AG_of ?_ ?_ <;> intro h) | (refine AB_of ?_ ?_ <;> intro h) | (refine A_draw_of [] [] (by kernel_rfl) ?_ <;> have h := mark)) <;> simp only [go_sem, seval, eq_self, reduceCtorEq, ownV, g1, h])
    all_goals (first | refine fin_ret ?_ | refine fin_normal ?_)
    all_goals simp only [resOf, Tryz.results66, Tryz.ntmps66, go_sem, seval, eq_self, reduceCtorEq]
  have g1 : decide (r < 1) = false := by simp; omega
  by_cases c2 : 15 < r
  · have g2 : decide (15 < r) = true := by simp [c2]
    rw [if_pos (.inr (by omega))]
    simp only [go_sem, seval, eq_self, reduceCtorEq, ownV, g1, g2]
    repeat' ((first | (refine AG_of ?_ ?_ <;> intro h) | (refine AB_of ?_ ?_ <;> intro h) | (refine A_draw_of [] [] (by kernel_rfl) ?_ <;> have h := mark)) <;> simp only [go_sem, seval, eq_self, reduceCtorEq, ownV, g1, g2, h])
    all_goals (first | refine fin_ret ?_ | refine fin_normal ?_)
    all_goals simp only [resOf, Tryz.results66, Tryz.ntmps66, go_sem, seval, eq_self, reduceCtorEq]
  have g2 : decide (15 < r) = false := by simp; omega
  rw [if_neg (by omega)]
  obtain ⟨k, rfl⟩ : ∃ k : Nat, r = k := ⟨r.toNat, by omega⟩
  have hd := drop_iv (o := o) (k := k) (by omega)
  have h0 := Int.natCast_nonneg k
  have h1 : (k : Int) < 16 := by omega
  simp only [go_sem, seval, eq_self, reduceCtorEq, ownV, g1, g2, h0, h1, hd, Int.toNat_natCast, Nat.mul_one, Nat.zero_add]
  repeat' ((first | (refine AG_of ?_ ?_ <;> intro h) | (refine AB_of ?_ ?_ <;> intro h) | (refine A_draw_of [] [] (by kernel_rfl) ?_ <;> have h := mark)) <;> simp only [go_sem, seval, eq_self, reduceCtorEq, ownV, g1, g2, h0, h1, hd, Int.toNat_natCast, Nat.mul_one, Nat.zero_add, h])
  all_goals (first | refine fin_ret ?_ | refine fin_normal ?_)
  all_goals simp only [resOf, Tryz.results66, Tryz.ntmps66, go_sem, seval, eq_self, reduceCtorEq]

def cRef2 : Orc := upd (upd cOf 66 (some spOn)) 57 (some spAnyE)
theorem cRef2_ok : ∀ g sp, cRef2 g = some sp → Impl Tryz.prog g sp := orc_upd (orc_upd cOf_ok rowned_impl) anyE_impl
theorem cRef2_at : cRef2 66 = some spOn ∧ cRef2 57 = some spAnyE ∧ cRef2 56 = some spROnE ∧ cRef2 58 = some spReadsL ∧ cRef2 55 = some spForm ∧ cRef2 54 = some spRightP := ⟨rfl, rfl, rfl, rfl, rfl, rfl⟩
theorem spAnyE_mv : spAnyE.mv = [] := rfl
theorem anyEB_reads (i : Ins) (o : List Int) : anyEB o (readsL i) = onEB i o := by
  unfold anyEB onEB
  have : ∀ l : List Int, (∀ r ∈ l, 1 ≤ r ∧ r < 16) → (l.any fun r => decide (0 < r) && oAt o r == 2) = l.any fun r => oAt o r == 2 := by
    intro l
    induction l with
    | nil => intro _; rfl
    | cons a l ih =>
      intro h
      have ha := h a (by simp)
      rw [List.any_cons, List.any_cons, ih fun r hr => h r (by simp [hr])]
      have : decide (0 < a) = true := by simp; omega
      rw [this, Bool.true_and]
  exact this _ fun r hr => reads_bd hr
theorem spAnyE_v {o : List Int} (ho : o.length = 16) (i : Ins) {l : List Int} (hl : readsL i = l) : spAnyE.fn [.agg (o.map iv), if l.isEmpty then .s (.slice none 0 0) else .lst false 1 (l.map iv)] = some (.s (.bool (onEB i o))) := by
  have h1 : ownOf (.agg (o.map iv)) = some o := ownOf_v ho
  have hb : ∀ r ∈ l, r < 16 := fun r hr => (reads_bd (i := i) (by rw [hl]; exact hr)).2
  have h2 := reads_len i
  rw [hl] at h2
  have h3 : lOf 1 (if l.isEmpty then .s (.slice none 0 0) else .lst false 1 (l.map iv)) = some (l.map iv) := by
    cases l <;> rfl
  simp only [spAnyE, h1, h3, Option.bind_some, mapM_of i64Of_v]
  rw [if_pos ⟨hb, by omega⟩, ← hl, anyEB_reads]
set_option maxHeartbeats 2000000 in
theorem rside_impl : Impl Tryz.prog 62 spSide := by
  refine impl_walk mixed cRef2_ok eqT_ok Tryz.func62 rfl Tryz.ntmps62 (by kernel_rfl) ?_
  intro xs r h
  unfold spSide at h
  simp only at h
  (try split at h) <;> try (cases (show none = some r from h); done)
  rename_i op d a b imm y
  obtain ⟨o, ho, h2⟩ := Option.bind_eq_some_iff.1 h
  clear h
  cases h2
  obtain ⟨rfl, hlen⟩ := ownOf_eq ho
  clear ho
  have hOn := spOn_v hlen d
  have ht := take_iv hlen
  obtain ⟨l, hl⟩ : ∃ l, readsL ⟨op, d, a, b, imm⟩ = l := ⟨_, rfl⟩
  have hR := readsL_v op d a b imm hl
  have hA := spAnyE_v hlen ⟨op, d, a, b, imm⟩ hl
  clear hl
  have hF := spForm_fn op
  refine ⟨by simp [ownV], ?_⟩
  unfold sideI reckB
  obtain ⟨f, hf⟩ : ∃ f, form op = f := ⟨_, rfl⟩
  simp only [hf] at hF ⊢
  clear hf
  cases l with
  | nil =>
    simp only [List.isEmpty_nil, if_true] at hR hA
    simp only [go_sem, seval, eq_self, reduceCtorEq, ownV, cRef2_at, spForm_mv, hF, spOn_mv, hOn, spReadsL_mv, hR, spAnyE_mv, hA, ht, hlen, List.length_map]
    repeat' ((first | (refine AG_of ?_ ?_ <;> intro h) | (refine AB_of ?_ ?_ <;> intro h) | (refine A_draw_of [] [] (by kernel_rfl) ?_ <;> have h := mark)) <;> simp only [go_sem, seval, eq_self, reduceCtorEq, ownV, cRef2_at, spForm_mv, hF, spOn_mv, hOn, spReadsL_mv, hR, spAnyE_mv, hA, ht, hlen, List.length_map, h])
    all_goals (first | refine fin_ret ?_ | refine fin_normal ?_)
    all_goals simp only [resOf, Tryz.results62, Tryz.ntmps62, go_sem, seval, eq_self, reduceCtorEq]
    all_goals (simp_all <;> try omega)
  | cons r l =>
    simp only [List.isEmpty_cons, Bool.false_eq_true, if_false, List.map_cons] at hR hA
    simp only [go_sem, seval, eq_self, reduceCtorEq, ownV, cRef2_at, spForm_mv, hF, spOn_mv, hOn, spReadsL_mv, hR, spAnyE_mv, hA, ht, hlen, List.length_map]
    repeat' ((first | (refine AG_of ?_ ?_ <;> intro h) | (refine AB_of ?_ ?_ <;> intro h) | (refine A_draw_of [] [] (by kernel_rfl) ?_ <;> have h := mark)) <;> simp only [go_sem, seval, eq_self, reduceCtorEq, ownV, cRef2_at, spForm_mv, hF, spOn_mv, hOn, spReadsL_mv, hR, spAnyE_mv, hA, ht, hlen, List.length_map, h])
    all_goals (first | refine fin_ret ?_ | refine fin_normal ?_)
    all_goals simp only [resOf, Tryz.results62, Tryz.ntmps62, go_sem, seval, eq_self, reduceCtorEq]
    all_goals (simp_all <;> try omega)

/-- what is known when the reference looks at an instruction -/
def clB (p : Prg) (o : List Int) (s : S) : Prop :=
  s.env 2 = .ptr 2 1 0 ∧ s.st 2 = ⟨1, .box [.lst false 5 (p.code.map Ins.v), .s (.int .i64 p.size), .lst false 1 (p.data.map u8v)]⟩ ∧ s.env 3 = .ptr 3 1 0 ∧ s.st 3 = ⟨1, .box (o.map iv)⟩
def clI1 (p : Prg) (o : List Int) (s : S) : Prop := clB p o s ∧ ∃ k : Nat, s.env 5 = .s (.int .i64 k) ∧ 1 ≤ k ∧ k ≤ 16 ∧ ∀ j : Nat, 1 ≤ j → j < k → (oAt o j == 1 || oAt o j == 2) = true
def clI2 (p : Prg) (o : List Int) (s : S) : Prop := clB p o s ∧ ∃ k : Nat, s.env 6 = .s (.int .i64 k) ∧ k ≤ p.code.length ∧ (p.code.take k).all (fun i => !wantsB i o) = true
theorem all_drop {o : List Int} (hl : o.length = 16) (f : Int → Bool) : (o.drop 1).all f = true ↔ ∀ j : Nat, 1 ≤ j → j < 16 → f (oAt o j) = true := by
  rw [List.all_eq_true]
  constructor
  · intro h j h1 h2
    refine h _ ?_
    have hj : j - 1 < (o.drop 1).length := by rw [List.length_drop]; omega
    have : (o.drop 1)[j - 1] = oAt o j := by
      rw [List.getElem_drop]
      simp only [oAt, Int.toNat_natCast, List.getD_eq_getElem?_getD, List.getElem?_eq_getElem (show j < o.length by omega), Option.getD_some]
      congr 1; omega
    rw [← this]
    exact List.getElem_mem hj
  · intro h x hx
    obtain ⟨j, hj, rfl⟩ := List.mem_iff_getElem.1 hx
    have h2 := hj
    rw [List.length_drop] at h2
    have := h (j + 1) (by omega) (by omega)
    rw [List.getElem_drop]
    simp only [oAt, Int.toNat_natCast, List.getD_eq_getElem?_getD, List.getElem?_eq_getElem (show j + 1 < o.length by omega), Option.getD_some] at this
    rw [show o[1 + j]'(by omega) = o[j + 1]'(by omega) by congr 1; omega]
    exact this
set_option maxHeartbeats 8000000 in
set_option maxRecDepth 8000 in
theorem rclosed_impl : Impl Tryz.prog 35 spClosed := by
  refine impl_walk2 mixed cRef2_ok eqT_ok Tryz.func35 rfl Tryz.ntmps35 (by kernel_rfl) ?_
  intro xs r h
  unfold spClosed at h
  simp only at h
  (try split at h) <;> try (cases (show none = some r from h); done)
  rename_i x y
  obtain ⟨p, hp, h3⟩ := Option.bind_eq_some_iff.1 h
  obtain ⟨o, ho, h4⟩ := Option.bind_eq_some_iff.1 h3
  clear h h3
  cases h4
  obtain ⟨_, hlen⟩ := ownOf_eq ho
  refine ⟨_, own_args hp ho, by simp, ?_⟩
  have hr := rightP_v p
  have hd := head_iv hlen
  simp only [Prg.v] at hr
  unfold closedB
  cases c1 : rightP p
  · rw [c1] at hr
    simp only [go_sem, seval, eq_self, reduceCtorEq, Prg.v, ownV, cRef2_at, spRightP_mv, hr]
    repeat' ((first | (refine AG_of ?_ ?_ <;> intro h) | (refine AB_of ?_ ?_ <;> intro h) | (refine A_draw_of [] [] (by kernel_rfl) ?_ <;> have h := mark)) <;> simp only [go_sem, seval, eq_self, reduceCtorEq, Prg.v, ownV, cRef2_at, spRightP_mv, hr, h])
    all_goals (first | refine fin_ret ?_ | refine fin_normal ?_)
    all_goals simp only [resOf, Tryz.results35, Tryz.ntmps35, go_sem, seval, eq_self, reduceCtorEq]
    all_goals simp
  rw [c1] at hr
  obtain ⟨hall, hcl⟩ := rightP_all c1
  by_cases c2 : oAt o 0 = 0
  case neg =>
    have g2 : (oAt o 0 != 0) = true := by simp [c2]
    have g3 : (oAt o 0 == 0) = false := by simp [c2]
    simp only [go_sem, seval, eq_self, reduceCtorEq, Prg.v, ownV, cRef2_at, spRightP_mv, hr, hd, g2, hlen, List.length_map]
    repeat' ((first | (refine AG_of ?_ ?_ <;> intro h) | (refine AB_of ?_ ?_ <;> intro h) | (refine A_draw_of [] [] (by kernel_rfl) ?_ <;> have h := mark)) <;> simp only [go_sem, seval, eq_self, reduceCtorEq, Prg.v, ownV, cRef2_at, spRightP_mv, hr, hd, g2, hlen, List.length_map, h])
    all_goals (first | refine fin_ret ?_ | refine fin_normal ?_)
    all_goals simp only [resOf, Tryz.results35, Tryz.ntmps35, go_sem, seval, eq_self, reduceCtorEq]
    all_goals simp [g3]
  have g2 : (oAt o 0 != 0) = false := by simp [c2]
  have g3 : (oAt o 0 == 0) = true := by simp [c2]
  simp only [go_sem, seval, eq_self, reduceCtorEq, Prg.v, ownV, cRef2_at, spRightP_mv, hr, hd, g2, hlen, List.length_map]
  repeat' ((first | (refine AG_of ?_ ?_ <;> intro h) | (refine AB_of ?_ ?_ <;> intro h) | (refine A_draw_of [] [] (by kernel_rfl) ?_ <;> have h := mark)) <;> simp only [go_sem, seval, eq_self, reduceCtorEq, Prg.v, ownV, cRef2_at, spRightP_mv, hr, hd, g2, hlen, List.length_map, h])
  refine A_loop (clI1 p o) (fun s => 17 - (numOf (s.env 5)).toNat) ?_ ?_
  · exact ⟨⟨by simp [upd], by simp [upd, V.unfr, V.unfrL], by simp [upd], by simp [upd]⟩, 1, by simp [upd], by omega, by omega, fun j h1 h2 => by omega⟩
  intro s hs
  obtain ⟨⟨e2, t2, e3, t3⟩, k, e5, hk1, hk, hok⟩ := hs
  rcases Nat.lt_or_ge k 16 with hlt | hge
  · have g0 : decide ((k : Int) < 16) = true := by simp; omega
    have z0 := Int.natCast_nonneg k
    have z1 : (k : Int) < 16 := by omega
    have n2 : IntKind.i64.wrap ((k : Int) + 1) = (k + 1 : Nat) := by rw [w_i64 (by omega) (by omega)]; omega
    have hdk := drop_iv (o := o) (k := k) (by omega)
    cases hb : (oAt o k == 1 || oAt o k == 2)
    · have hal : (o.drop 1).all (fun x => x == 1 || x == 2) = false := by
        rw [Bool.eq_false_iff]
        intro h
        have := (all_drop hlen _).1 h k hk1 hlt
        rw [hb] at this; cases this
      have hb1 : (oAt o k != 1) = true := by simp at hb ⊢; exact hb.1
      have hb2 : (oAt o k != 2) = true := by simp at hb ⊢; exact hb.2
      simp only [go_sem, seval, eq_self, reduceCtorEq, e2, t2, e3, t3, e5, g0, z0, z1, n2, hdk, hb1, hb2, hlen, List.length_map, Int.toNat_natCast, Nat.mul_one, Nat.zero_add]
      repeat' ((first | (refine AG_of ?_ ?_ <;> intro h) | (refine AB_of ?_ ?_ <;> intro h) | (refine A_draw_of [] [] (by kernel_rfl) ?_ <;> have h := mark)) <;> simp only [go_sem, seval, eq_self, reduceCtorEq, e2, t2, e3, t3, e5, g0, z0, z1, n2, hdk, hb1, hb2, hlen, List.length_map, Int.toNat_natCast, Nat.mul_one, Nat.zero_add, h])
      all_goals (first | refine fin_ret ?_ | refine fin_normal ?_)
      all_goals simp only [resOf, Tryz.results35, Tryz.ntmps35, go_sem, seval, eq_self, reduceCtorEq]
      all_goals (rw [hal]; simp)
    · have hok2 : ∀ j : Nat, 1 ≤ j → j < k + 1 → (oAt o j == 1 || oAt o j == 2) = true := fun j h1 h2 => by
        rcases Nat.lt_or_ge j k with h | h
        · exact hok j h1 h
        · rw [show j = k by omega]; exact hb
      cases hb1 : (oAt o k != 1)
      ·
        simp only [go_sem, seval, eq_self, reduceCtorEq, e2, t2, e3, t3, e5, g0, z0, z1, n2, hdk, hb1, hlen, List.length_map, Int.toNat_natCast, Nat.mul_one, Nat.zero_add]
        repeat' ((first | (refine AG_of ?_ ?_ <;> intro h) | (refine AB_of ?_ ?_ <;> intro h) | (refine A_draw_of [] [] (by kernel_rfl) ?_ <;> have h := mark)) <;> simp only [go_sem, seval, eq_self, reduceCtorEq, e2, t2, e3, t3, e5, g0, z0, z1, n2, hdk, hb1, hlen, List.length_map, Int.toNat_natCast, Nat.mul_one, Nat.zero_add, h])
        exact ⟨⟨⟨by simp [upd, e2], by simp [upd, t2], by simp [upd, e3], by simp [upd, t3]⟩, k + 1, by simp [upd], by omega, by omega, hok2⟩, by simp [upd, numOf, e5]; omega⟩
      · have hb2 : (oAt o k != 2) = false := by simp at hb hb1 ⊢; omega
        simp only [go_sem, seval, eq_self, reduceCtorEq, e2, t2, e3, t3, e5, g0, z0, z1, n2, hdk, hb1, hb2, hlen, List.length_map, Int.toNat_natCast, Nat.mul_one, Nat.zero_add]
        repeat' ((first | (refine AG_of ?_ ?_ <;> intro h) | (refine AB_of ?_ ?_ <;> intro h) | (refine A_draw_of [] [] (by kernel_rfl) ?_ <;> have h := mark)) <;> simp only [go_sem, seval, eq_self, reduceCtorEq, e2, t2, e3, t3, e5, g0, z0, z1, n2, hdk, hb1, hb2, hlen, List.length_map, Int.toNat_natCast, Nat.mul_one, Nat.zero_add, h])
        exact ⟨⟨⟨by simp [upd, e2], by simp [upd, t2], by simp [upd, e3], by simp [upd, t3]⟩, k + 1, by simp [upd], by omega, by omega, hok2⟩, by simp [upd, numOf, e5]; omega⟩
  have hk16 : k = 16 := by omega
  subst hk16
  have hal : (o.drop 1).all (fun x => x == 1 || x == 2) = true := (all_drop hlen _).2 hok
  rw [hal, g3]
  simp only [go_sem, seval, eq_self, reduceCtorEq, e2, t2, e3, t3, e5]
  repeat' ((first | (refine AG_of ?_ ?_ <;> intro h) | (refine AB_of ?_ ?_ <;> intro h) | (refine A_draw_of [] [] (by kernel_rfl) ?_ <;> have h := mark)) <;> simp only [go_sem, seval, eq_self, reduceCtorEq, e2, t2, e3, t3, e5, h])
  refine A_loop (clI2 p o) (fun s => p.code.length - (numOf (s.env 6)).toNat) ?_ ?_
  · exact ⟨⟨by simp [upd, e2], by simp [upd, t2], by simp [upd, e3], by simp [upd, t3]⟩, 0, by simp [upd], by omega, rfl⟩
  clear e2 t2 e3 t3 e5 hok
  intro s hs
  obtain ⟨⟨e2, t2, e3, t3⟩, k, e6, hk, hok⟩ := hs
  rcases Nat.lt_or_ge k p.code.length with hlt | hge
  case inr =>
    have hkl : k = p.code.length := by omega
    have g0 : decide ((k : Int) < p.code.length) = false := by simp; omega
    rw [hkl, List.take_length] at hok
    rw [hok]
    simp only [go_sem, seval, eq_self, reduceCtorEq, e2, t2, e3, t3, e6, g0, List.length_map]
    repeat' ((first | (refine AG_of ?_ ?_ <;> intro h) | (refine AB_of ?_ ?_ <;> intro h) | (refine A_draw_of [] [] (by kernel_rfl) ?_ <;> have h := mark)) <;> simp only [go_sem, seval, eq_self, reduceCtorEq, e2, t2, e3, t3, e6, g0, List.length_map, h])
    all_goals (first | refine fin_ret ?_ | refine fin_normal ?_)
    all_goals simp only [resOf, Tryz.results35, Tryz.ntmps35, go_sem, seval, eq_self, reduceCtorEq]
    all_goals simp
  obtain ⟨⟨op, d, a, b, imm⟩, q⟩ : ∃ i, p.code[k]? = some i := ⟨p.code[k], List.getElem?_eq_getElem hlt⟩
  have hri := List.all_eq_true.1 hall _ (List.mem_of_getElem? q)
  have g0 : decide ((k : Int) < p.code.length) = true := by simp; omega
  have z0 := Int.natCast_nonneg k
  have n2 : IntKind.i64.wrap ((k : Int) + 1) = (k + 1 : Nat) := by rw [w_i64 (by omega) (by omega)]; omega
  have hf := right_fit hri
  obtain ⟨kd, rfl⟩ : ∃ k : Nat, d = k := ⟨d.toNat, by have := hf.d0; simp only at this; omega⟩
  have ha0 : 0 ≤ a := by have := hf.a0; simpa using this
  have ha1 : a < 16 := by have := hf.a1; simp only at this; omega
  have hd1 : (kd : Int) < 16 := by have := hf.d1; simp only at this; omega
  have hz2 := Int.natCast_nonneg kd
  have hdd := drop_iv (o := o) (k := kd) (by omega)
  have ht := take_iv hlen
  have hE := spROnE_v hlen ha1
  have hE2 : (decide (0 < a) && oAt o a == 2) = (oAt o a == 2) := by
    by_cases h : 0 < a
    · simp [h]
    · have : a = 0 := by omega
      subst this
      rw [c2]; rfl
  rw [hE2] at hE
  obtain ⟨l, hl⟩ : ∃ l, readsL ⟨op, kd, a, b, imm⟩ = l := ⟨_, rfl⟩
  have hR := readsL_v op kd a b imm hl
  have hA := spAnyE_v hlen ⟨op, kd, a, b, imm⟩ hl
  have hF := spForm_fn op
  have hsn : (p.code.take (k + 1)).all (fun i => !wantsB i o) = !wantsB ⟨op, kd, a, b, imm⟩ o := by
    rw [List.take_add_one, q, List.all_append, hok]; simp
  have hno : wantsB ⟨op, kd, a, b, imm⟩ o = true → p.code.all (fun i => !wantsB i o) = false := fun h => by
    rw [Bool.eq_false_iff]
    intro h2
    have := List.all_eq_true.1 h2 _ (List.mem_of_getElem? q)
    simp only [h] at this; cases this
  have hw : wantsB ⟨op, kd, a, b, imm⟩ o = (((form op == 4 || form op == 5) && oAt o a == 2) || (decide (1 ≤ form op) && decide (form op ≤ 3) && oAt o kd == 1 && onEB ⟨op, kd, a, b, imm⟩ o)) := rfl
  obtain ⟨w, hwe⟩ : ∃ w, wantsB ⟨op, kd, a, b, imm⟩ o = w := ⟨_, rfl⟩
  rw [hwe] at hsn hno hw
  obtain ⟨f, hfe⟩ : ∃ f, form op = f := ⟨_, rfl⟩
  rw [hfe] at hw hF
  clear hwe hfe hl
  obtain ⟨eo, heo⟩ : ∃ eo, onEB ⟨op, kd, a, b, imm⟩ o = eo := ⟨_, rfl⟩
  rw [heo] at hw hA
  clear heo
  have hkd : decide (0 < (kd : Int)) = false → (oAt o kd == 1) = false := fun h => by
    have : kd = 0 := by simp at h; omega
    subst this
    have : oAt o ((0 : Nat) : Int) = 0 := c2
    rw [this]; rfl
  have z1 : (k : Int) < p.code.length := by omega
  have key : ∀ R : V, spReadsL.fn [.agg [.s (.int .i64 op), .s (.int .i64 kd), .s (.int .i64 a), .s (.int .i64 b), .s (.int .i64 imm)]] = some R → True := fun _ _ => trivial
  clear key
  have hcase : f = 4 ∨ f = 5 ∨ (1 ≤ f ∧ f ≤ 3) ∨ (f ≠ 4 ∧ f ≠ 5 ∧ ¬ (1 ≤ f ∧ f ≤ 3)) := by omega
  cases l with
  | nil =>
    simp only [List.isEmpty_nil, if_true] at hR hA
    rcases hcase with hf4 | hf5 | hfr | hfe
    ·
      subst hf4
      have e1 : w = (oAt o a == 2) := by rw [hw]; simp
      cases hv : (oAt o a == 2)
      ·
        rw [hv] at e1 hE
        subst e1
        simp only [go_sem, seval, eq_self, reduceCtorEq, e2, t2, e3, t3, e6, q, g0, z0, z1, n2, ha0, ha1, hz2, hd1, hdd, ht, hlen, cRef2_at, spForm_mv, hF, spROnE_mv, hE, spReadsL_mv, hR, spAnyE_mv, hA, Int.toNat_natCast, List.getElem?_map, List.length_map, Ins.v, Nat.mul_one, Nat.zero_add, hv]
        repeat' ((first | (refine AG_of ?_ ?_ <;> intro h) | (refine AB_of ?_ ?_ <;> intro h) | (refine A_draw_of [] [] (by kernel_rfl) ?_ <;> have h := mark)) <;> simp only [go_sem, seval, eq_self, reduceCtorEq, e2, t2, e3, t3, e6, q, g0, z0, z1, n2, ha0, ha1, hz2, hd1, hdd, ht, hlen, cRef2_at, spForm_mv, hF, spROnE_mv, hE, spReadsL_mv, hR, spAnyE_mv, hA, Int.toNat_natCast, List.getElem?_map, List.length_map, Ins.v, Nat.mul_one, Nat.zero_add, hv, h])
        exact ⟨⟨⟨by simp [upd, e2], by simp [upd, t2], by simp [upd, e3], by simp [upd, t3]⟩, k + 1, by simp [upd], by omega, hsn⟩, by simp [upd, numOf, e6]; omega⟩
      ·
        rw [hv] at e1 hE
        subst e1
        simp only [go_sem, seval, eq_self, reduceCtorEq, e2, t2, e3, t3, e6, q, g0, z0, z1, n2, ha0, ha1, hz2, hd1, hdd, ht, hlen, cRef2_at, spForm_mv, hF, spROnE_mv, hE, spReadsL_mv, hR, spAnyE_mv, hA, Int.toNat_natCast, List.getElem?_map, List.length_map, Ins.v, Nat.mul_one, Nat.zero_add, hv]
        repeat' ((first | (refine AG_of ?_ ?_ <;> intro h) | (refine AB_of ?_ ?_ <;> intro h) | (refine A_draw_of [] [] (by kernel_rfl) ?_ <;> have h := mark)) <;> simp only [go_sem, seval, eq_self, reduceCtorEq, e2, t2, e3, t3, e6, q, g0, z0, z1, n2, ha0, ha1, hz2, hd1, hdd, ht, hlen, cRef2_at, spForm_mv, hF, spROnE_mv, hE, spReadsL_mv, hR, spAnyE_mv, hA, Int.toNat_natCast, List.getElem?_map, List.length_map, Ins.v, Nat.mul_one, Nat.zero_add, hv, h])
        all_goals (first | refine fin_ret ?_ | refine fin_normal ?_)
        all_goals simp only [resOf, Tryz.results35, Tryz.ntmps35, go_sem, seval, eq_self, reduceCtorEq]
        all_goals (rw [hno rfl]; try simp)
    ·
      subst hf5
      have e1 : w = (oAt o a == 2) := by rw [hw]; simp
      cases hv : (oAt o a == 2)
      ·
        rw [hv] at e1 hE
        subst e1
        simp only [go_sem, seval, eq_self, reduceCtorEq, e2, t2, e3, t3, e6, q, g0, z0, z1, n2, ha0, ha1, hz2, hd1, hdd, ht, hlen, cRef2_at, spForm_mv, hF, spROnE_mv, hE, spReadsL_mv, hR, spAnyE_mv, hA, Int.toNat_natCast, List.getElem?_map, List.length_map, Ins.v, Nat.mul_one, Nat.zero_add, hv]
        repeat' ((first | (refine AG_of ?_ ?_ <;> intro h) | (refine AB_of ?_ ?_ <;> intro h) | (refine A_draw_of [] [] (by kernel_rfl) ?_ <;> have h := mark)) <;> simp only [go_sem, seval, eq_self, reduceCtorEq, e2, t2, e3, t3, e6, q, g0, z0, z1, n2, ha0, ha1, hz2, hd1, hdd, ht, hlen, cRef2_at, spForm_mv, hF, spROnE_mv, hE, spReadsL_mv, hR, spAnyE_mv, hA, Int.toNat_natCast, List.getElem?_map, List.length_map, Ins.v, Nat.mul_one, Nat.zero_add, hv, h])
        exact ⟨⟨⟨by simp [upd, e2], by simp [upd, t2], by simp [upd, e3], by simp [upd, t3]⟩, k + 1, by simp [upd], by omega, hsn⟩, by simp [upd, numOf, e6]; omega⟩
      ·
        rw [hv] at e1 hE
        subst e1
        simp only [go_sem, seval, eq_self, reduceCtorEq, e2, t2, e3, t3, e6, q, g0, z0, z1, n2, ha0, ha1, hz2, hd1, hdd, ht, hlen, cRef2_at, spForm_mv, hF, spROnE_mv, hE, spReadsL_mv, hR, spAnyE_mv, hA, Int.toNat_natCast, List.getElem?_map, List.length_map, Ins.v, Nat.mul_one, Nat.zero_add, hv]
        repeat' ((first | (refine AG_of ?_ ?_ <;> intro h) | (refine AB_of ?_ ?_ <;> intro h) | (refine A_draw_of [] [] (by kernel_rfl) ?_ <;> have h := mark)) <;> simp only [go_sem, seval, eq_self, reduceCtorEq, e2, t2, e3, t3, e6, q, g0, z0, z1, n2, ha0, ha1, hz2, hd1, hdd, ht, hlen, cRef2_at, spForm_mv, hF, spROnE_mv, hE, spReadsL_mv, hR, spAnyE_mv, hA, Int.toNat_natCast, List.getElem?_map, List.length_map, Ins.v, Nat.mul_one, Nat.zero_add, hv, h])
        all_goals (first | refine fin_ret ?_ | refine fin_normal ?_)
        all_goals simp only [resOf, Tryz.results35, Tryz.ntmps35, go_sem, seval, eq_self, reduceCtorEq]
        all_goals (rw [hno rfl]; try simp)
    ·
      have f4 : (f == 4) = false := by simp; omega
      have f5 : (f == 5) = false := by simp; omega
      have f1 : decide (1 ≤ f) = true := by simp; omega
      have f3 : decide (f ≤ 3) = true := by simp; omega
      rw [f4, f5, f1, f3] at hw
      simp only [Bool.or_false, Bool.false_and, Bool.false_or, Bool.true_and, Bool.and_true] at hw
      cases hk0 : decide (0 < (kd : Int))
      ·
        rw [hkd hk0, Bool.false_and] at hw
        subst hw
        simp only [go_sem, seval, eq_self, reduceCtorEq, e2, t2, e3, t3, e6, q, g0, z0, z1, n2, ha0, ha1, hz2, hd1, hdd, ht, hlen, cRef2_at, spForm_mv, hF, spROnE_mv, hE, spReadsL_mv, hR, spAnyE_mv, hA, Int.toNat_natCast, List.getElem?_map, List.length_map, Ins.v, Nat.mul_one, Nat.zero_add, f4, f5, f1, f3, hk0]
        repeat' ((first | (refine AG_of ?_ ?_ <;> intro h) | (refine AB_of ?_ ?_ <;> intro h) | (refine A_draw_of [] [] (by kernel_rfl) ?_ <;> have h := mark)) <;> simp only [go_sem, seval, eq_self, reduceCtorEq, e2, t2, e3, t3, e6, q, g0, z0, z1, n2, ha0, ha1, hz2, hd1, hdd, ht, hlen, cRef2_at, spForm_mv, hF, spROnE_mv, hE, spReadsL_mv, hR, spAnyE_mv, hA, Int.toNat_natCast, List.getElem?_map, List.length_map, Ins.v, Nat.mul_one, Nat.zero_add, f4, f5, f1, f3, hk0, h])
        exact ⟨⟨⟨by simp [upd, e2], by simp [upd, t2], by simp [upd, e3], by simp [upd, t3]⟩, k + 1, by simp [upd], by omega, hsn⟩, by simp [upd, numOf, e6]; omega⟩
      ·
        cases hv : (oAt o kd == 1)
        ·
          rw [hv, Bool.false_and] at hw
          subst hw
          simp only [go_sem, seval, eq_self, reduceCtorEq, e2, t2, e3, t3, e6, q, g0, z0, z1, n2, ha0, ha1, hz2, hd1, hdd, ht, hlen, cRef2_at, spForm_mv, hF, spROnE_mv, hE, spReadsL_mv, hR, spAnyE_mv, hA, Int.toNat_natCast, List.getElem?_map, List.length_map, Ins.v, Nat.mul_one, Nat.zero_add, f4, f5, f1, f3, hk0, hv]
          repeat' ((first | (refine AG_of ?_ ?_ <;> intro h) | (refine AB_of ?_ ?_ <;> intro h) | (refine A_draw_of [] [] (by kernel_rfl) ?_ <;> have h := mark)) <;> simp only [go_sem, seval, eq_self, reduceCtorEq, e2, t2, e3, t3, e6, q, g0, z0, z1, n2, ha0, ha1, hz2, hd1, hdd, ht, hlen, cRef2_at, spForm_mv, hF, spROnE_mv, hE, spReadsL_mv, hR, spAnyE_mv, hA, Int.toNat_natCast, List.getElem?_map, List.length_map, Ins.v, Nat.mul_one, Nat.zero_add, f4, f5, f1, f3, hk0, hv, h])
          exact ⟨⟨⟨by simp [upd, e2], by simp [upd, t2], by simp [upd, e3], by simp [upd, t3]⟩, k + 1, by simp [upd], by omega, hsn⟩, by simp [upd, numOf, e6]; omega⟩
        ·
          rw [hv, Bool.true_and] at hw
          subst hw
          cases w
          ·
            simp only [go_sem, seval, eq_self, reduceCtorEq, e2, t2, e3, t3, e6, q, g0, z0, z1, n2, ha0, ha1, hz2, hd1, hdd, ht, hlen, cRef2_at, spForm_mv, hF, spROnE_mv, hE, spReadsL_mv, hR, spAnyE_mv, hA, Int.toNat_natCast, List.getElem?_map, List.length_map, Ins.v, Nat.mul_one, Nat.zero_add, f4, f5, f1, f3, hk0, hv]
            repeat' ((first | (refine AG_of ?_ ?_ <;> intro h) | (refine AB_of ?_ ?_ <;> intro h) | (refine A_draw_of [] [] (by kernel_rfl) ?_ <;> have h := mark)) <;> simp only [go_sem, seval, eq_self, reduceCtorEq, e2, t2, e3, t3, e6, q, g0, z0, z1, n2, ha0, ha1, hz2, hd1, hdd, ht, hlen, cRef2_at, spForm_mv, hF, spROnE_mv, hE, spReadsL_mv, hR, spAnyE_mv, hA, Int.toNat_natCast, List.getElem?_map, List.length_map, Ins.v, Nat.mul_one, Nat.zero_add, f4, f5, f1, f3, hk0, hv, h])
            exact ⟨⟨⟨by simp [upd, e2], by simp [upd, t2], by simp [upd, e3], by simp [upd, t3]⟩, k + 1, by simp [upd], by omega, hsn⟩, by simp [upd, numOf, e6]; omega⟩
          ·
            simp only [go_sem, seval, eq_self, reduceCtorEq, e2, t2, e3, t3, e6, q, g0, z0, z1, n2, ha0, ha1, hz2, hd1, hdd, ht, hlen, cRef2_at, spForm_mv, hF, spROnE_mv, hE, spReadsL_mv, hR, spAnyE_mv, hA, Int.toNat_natCast, List.getElem?_map, List.length_map, Ins.v, Nat.mul_one, Nat.zero_add, f4, f5, f1, f3, hk0, hv]
            repeat' ((first | (refine AG_of ?_ ?_ <;> intro h) | (refine AB_of ?_ ?_ <;> intro h) | (refine A_draw_of [] [] (by kernel_rfl) ?_ <;> have h := mark)) <;> simp only [go_sem, seval, eq_self, reduceCtorEq, e2, t2, e3, t3, e6, q, g0, z0, z1, n2, ha0, ha1, hz2, hd1, hdd, ht, hlen, cRef2_at, spForm_mv, hF, spROnE_mv, hE, spReadsL_mv, hR, spAnyE_mv, hA, Int.toNat_natCast, List.getElem?_map, List.length_map, Ins.v, Nat.mul_one, Nat.zero_add, f4, f5, f1, f3, hk0, hv, h])
            all_goals (first | refine fin_ret ?_ | refine fin_normal ?_)
            all_goals simp only [resOf, Tryz.results35, Tryz.ntmps35, go_sem, seval, eq_self, reduceCtorEq]
            all_goals (rw [hno rfl]; try simp)
    ·
      have f4 : (f == 4) = false := by simp; omega
      have f5 : (f == 5) = false := by simp; omega
      rw [f4, f5] at hw
      have e1 : w = false := by
        rw [hw]
        have : (decide (1 ≤ f) && decide (f ≤ 3)) = false := by simp; omega
        rw [this]; rfl
      subst e1
      cases f1 : decide (1 ≤ f)
      ·
        simp only [go_sem, seval, eq_self, reduceCtorEq, e2, t2, e3, t3, e6, q, g0, z0, z1, n2, ha0, ha1, hz2, hd1, hdd, ht, hlen, cRef2_at, spForm_mv, hF, spROnE_mv, hE, spReadsL_mv, hR, spAnyE_mv, hA, Int.toNat_natCast, List.getElem?_map, List.length_map, Ins.v, Nat.mul_one, Nat.zero_add, f4, f5, f1]
        repeat' ((first | (refine AG_of ?_ ?_ <;> intro h) | (refine AB_of ?_ ?_ <;> intro h) | (refine A_draw_of [] [] (by kernel_rfl) ?_ <;> have h := mark)) <;> simp only [go_sem, seval, eq_self, reduceCtorEq, e2, t2, e3, t3, e6, q, g0, z0, z1, n2, ha0, ha1, hz2, hd1, hdd, ht, hlen, cRef2_at, spForm_mv, hF, spROnE_mv, hE, spReadsL_mv, hR, spAnyE_mv, hA, Int.toNat_natCast, List.getElem?_map, List.length_map, Ins.v, Nat.mul_one, Nat.zero_add, f4, f5, f1, h])
        exact ⟨⟨⟨by simp [upd, e2], by simp [upd, t2], by simp [upd, e3], by simp [upd, t3]⟩, k + 1, by simp [upd], by omega, hsn⟩, by simp [upd, numOf, e6]; omega⟩
      ·
        have f3 : decide (f ≤ 3) = false := by simp at f1 ⊢; omega
        simp only [go_sem, seval, eq_self, reduceCtorEq, e2, t2, e3, t3, e6, q, g0, z0, z1, n2, ha0, ha1, hz2, hd1, hdd, ht, hlen, cRef2_at, spForm_mv, hF, spROnE_mv, hE, spReadsL_mv, hR, spAnyE_mv, hA, Int.toNat_natCast, List.getElem?_map, List.length_map, Ins.v, Nat.mul_one, Nat.zero_add, f4, f5, f1, f3]
        repeat' ((first | (refine AG_of ?_ ?_ <;> intro h) | (refine AB_of ?_ ?_ <;> intro h) | (refine A_draw_of [] [] (by kernel_rfl) ?_ <;> have h := mark)) <;> simp only [go_sem, seval, eq_self, reduceCtorEq, e2, t2, e3, t3, e6, q, g0, z0, z1, n2, ha0, ha1, hz2, hd1, hdd, ht, hlen, cRef2_at, spForm_mv, hF, spROnE_mv, hE, spReadsL_mv, hR, spAnyE_mv, hA, Int.toNat_natCast, List.getElem?_map, List.length_map, Ins.v, Nat.mul_one, Nat.zero_add, f4, f5, f1, f3, h])
        exact ⟨⟨⟨by simp [upd, e2], by simp [upd, t2], by simp [upd, e3], by simp [upd, t3]⟩, k + 1, by simp [upd], by omega, hsn⟩, by simp [upd, numOf, e6]; omega⟩
  | cons r l =>
    simp only [List.isEmpty_cons, Bool.false_eq_true, if_false, List.map_cons] at hR hA
    rcases hcase with hf4 | hf5 | hfr | hfe
    ·
      subst hf4
      have e1 : w = (oAt o a == 2) := by rw [hw]; simp
      cases hv : (oAt o a == 2)
      ·
        rw [hv] at e1 hE
        subst e1
        simp only [go_sem, seval, eq_self, reduceCtorEq, e2, t2, e3, t3, e6, q, g0, z0, z1, n2, ha0, ha1, hz2, hd1, hdd, ht, hlen, cRef2_at, spForm_mv, hF, spROnE_mv, hE, spReadsL_mv, hR, spAnyE_mv, hA, Int.toNat_natCast, List.getElem?_map, List.length_map, Ins.v, Nat.mul_one, Nat.zero_add, hv]
        repeat' ((first | (refine AG_of ?_ ?_ <;> intro h) | (refine AB_of ?_ ?_ <;> intro h) | (refine A_draw_of [] [] (by kernel_rfl) ?_ <;> have h := mark)) <;> simp only [go_sem, seval, eq_self, reduceCtorEq, e2, t2, e3, t3, e6, q, g0, z0, z1, n2, ha0, ha1, hz2, hd1, hdd, ht, hlen, cRef2_at, spForm_mv, hF, spROnE_mv, hE, spReadsL_mv, hR, spAnyE_mv, hA, Int.toNat_natCast, List.getElem?_map, List.length_map, Ins.v, Nat.mul_one, Nat.zero_add, hv, h])
        exact ⟨⟨⟨by simp [upd, e2], by simp [upd, t2], by simp [upd, e3], by simp [upd, t3]⟩, k + 1, by simp [upd], by omega, hsn⟩, by simp [upd, numOf, e6]; omega⟩
      ·
        rw [hv] at e1 hE
        subst e1
        simp only [go_sem, seval, eq_self, reduceCtorEq, e2, t2, e3, t3, e6, q, g0, z0, z1, n2, ha0, ha1, hz2, hd1, hdd, ht, hlen, cRef2_at, spForm_mv, hF, spROnE_mv, hE, spReadsL_mv, hR, spAnyE_mv, hA, Int.toNat_natCast, List.getElem?_map, List.length_map, Ins.v, Nat.mul_one, Nat.zero_add, hv]
        repeat' ((first | (refine AG_of ?_ ?_ <;> intro h) | (refine AB_of ?_ ?_ <;> intro h) | (refine A_draw_of [] [] (by kernel_rfl) ?_ <;> have h := mark)) <;> simp only [go_sem, seval, eq_self, reduceCtorEq, e2, t2, e3, t3, e6, q, g0, z0, z1, n2, ha0, ha1, hz2, hd1, hdd, ht, hlen, cRef2_at, spForm_mv, hF, spROnE_mv, hE, spReadsL_mv, hR, spAnyE_mv, hA, Int.toNat_natCast, List.getElem?_map, List.length_map, Ins.v, Nat.mul_one, Nat.zero_add, hv, h])
        all_goals (first | refine fin_ret ?_ | refine fin_normal ?_)
        all_goals simp only [resOf, Tryz.results35, Tryz.ntmps35, go_sem, seval, eq_self, reduceCtorEq]
        all_goals (rw [hno rfl]; try simp)
    ·
      subst hf5
      have e1 : w = (oAt o a == 2) := by rw [hw]; simp
      cases hv : (oAt o a == 2)
      ·
        rw [hv] at e1 hE
        subst e1
        simp only [go_sem, seval, eq_self, reduceCtorEq, e2, t2, e3, t3, e6, q, g0, z0, z1, n2, ha0, ha1, hz2, hd1, hdd, ht, hlen, cRef2_at, spForm_mv, hF, spROnE_mv, hE, spReadsL_mv, hR, spAnyE_mv, hA, Int.toNat_natCast, List.getElem?_map, List.length_map, Ins.v, Nat.mul_one, Nat.zero_add, hv]
        repeat' ((first | (refine AG_of ?_ ?_ <;> intro h) | (refine AB_of ?_ ?_ <;> intro h) | (refine A_draw_of [] [] (by kernel_rfl) ?_ <;> have h := mark)) <;> simp only [go_sem, seval, eq_self, reduceCtorEq, e2, t2, e3, t3, e6, q, g0, z0, z1, n2, ha0, ha1, hz2, hd1, hdd, ht, hlen, cRef2_at, spForm_mv, hF, spROnE_mv, hE, spReadsL_mv, hR, spAnyE_mv, hA, Int.toNat_natCast, List.getElem?_map, List.length_map, Ins.v, Nat.mul_one, Nat.zero_add, hv, h])
        exact ⟨⟨⟨by simp [upd, e2], by simp [upd, t2], by simp [upd, e3], by simp [upd, t3]⟩, k + 1, by simp [upd], by omega, hsn⟩, by simp [upd, numOf, e6]; omega⟩
      ·
        rw [hv] at e1 hE
        subst e1
        simp only [go_sem, seval, eq_self, reduceCtorEq, e2, t2, e3, t3, e6, q, g0, z0, z1, n2, ha0, ha1, hz2, hd1, hdd, ht, hlen, cRef2_at, spForm_mv, hF, spROnE_mv, hE, spReadsL_mv, hR, spAnyE_mv, hA, Int.toNat_natCast, List.getElem?_map, List.length_map, Ins.v, Nat.mul_one, Nat.zero_add, hv]
        repeat' ((first | (refine AG_of ?_ ?_ <;> intro h) | (refine AB_of ?_ ?_ <;> intro h) | (refine A_draw_of [] [] (by kernel_rfl) ?_ <;> have h := mark)) <;> simp only [go_sem, seval, eq_self, reduceCtorEq, e2, t2, e3, t3, e6, q, g0, z0, z1, n2, ha0, ha1, hz2, hd1, hdd, ht, hlen, cRef2_at, spForm_mv, hF, spROnE_mv, hE, spReadsL_mv, hR, spAnyE_mv, hA, Int.toNat_natCast, List.getElem?_map, List.length_map, Ins.v, Nat.mul_one, Nat.zero_add, hv, h])
        all_goals (first | refine fin_ret ?_ | refine fin_normal ?_)
        all_goals simp only [resOf, Tryz.results35, Tryz.ntmps35, go_sem, seval, eq_self, reduceCtorEq]
        all_goals (rw [hno rfl]; try simp)
    ·
      have f4 : (f == 4) = false := by simp; omega
      have f5 : (f == 5) = false := by simp; omega
      have f1 : decide (1 ≤ f) = true := by simp; omega
      have f3 : decide (f ≤ 3) = true := by simp; omega
      rw [f4, f5, f1, f3] at hw
      simp only [Bool.or_false, Bool.false_and, Bool.false_or, Bool.true_and, Bool.and_true] at hw
      cases hk0 : decide (0 < (kd : Int))
      ·
        rw [hkd hk0, Bool.false_and] at hw
        subst hw
        simp only [go_sem, seval, eq_self, reduceCtorEq, e2, t2, e3, t3, e6, q, g0, z0, z1, n2, ha0, ha1, hz2, hd1, hdd, ht, hlen, cRef2_at, spForm_mv, hF, spROnE_mv, hE, spReadsL_mv, hR, spAnyE_mv, hA, Int.toNat_natCast, List.getElem?_map, List.length_map, Ins.v, Nat.mul_one, Nat.zero_add, f4, f5, f1, f3, hk0]
        repeat' ((first | (refine AG_of ?_ ?_ <;> intro h) | (refine AB_of ?_ ?_ <;> intro h) | (refine A_draw_of [] [] (by kernel_rfl) ?_ <;> have h := mark)) <;> simp only [go_sem, seval, eq_self, reduceCtorEq, e2, t2, e3, t3, e6, q, g0, z0, z1, n2, ha0, ha1, hz2, hd1, hdd, ht, hlen, cRef2_at, spForm_mv, hF, spROnE_mv, hE, spReadsL_mv, hR, spAnyE_mv, hA, Int.toNat_natCast, List.getElem?_map, List.length_map, Ins.v, Nat.mul_one, Nat.zero_add, f4, f5, f1, f3, hk0, h])
        exact ⟨⟨⟨by simp [upd, e2], by simp [upd, t2], by simp [upd, e3], by simp [upd, t3]⟩, k + 1, by simp [upd], by omega, hsn⟩, by simp [upd, numOf, e6]; omega⟩
      ·
        cases hv : (oAt o kd == 1)
        ·
          rw [hv, Bool.false_and] at hw
          subst hw
          simp only [go_sem, seval, eq_self, reduceCtorEq, e2, t2, e3, t3, e6, q, g0, z0, z1, n2, ha0, ha1, hz2, hd1, hdd, ht, hlen, cRef2_at, spForm_mv, hF, spROnE_mv, hE, spReadsL_mv, hR, spAnyE_mv, hA, Int.toNat_natCast, List.getElem?_map, List.length_map, Ins.v, Nat.mul_one, Nat.zero_add, f4, f5, f1, f3, hk0, hv]
          repeat' ((first | (refine AG_of ?_ ?_ <;> intro h) | (refine AB_of ?_ ?_ <;> intro h) | (refine A_draw_of [] [] (by kernel_rfl) ?_ <;> have h := mark)) <;> simp only [go_sem, seval, eq_self, reduceCtorEq, e2, t2, e3, t3, e6, q, g0, z0, z1, n2, ha0, ha1, hz2, hd1, hdd, ht, hlen, cRef2_at, spForm_mv, hF, spROnE_mv, hE, spReadsL_mv, hR, spAnyE_mv, hA, Int.toNat_natCast, List.getElem?_map, List.length_map, Ins.v, Nat.mul_one, Nat.zero_add, f4, f5, f1, f3, hk0, hv, h])
          exact ⟨⟨⟨by simp [upd, e2], by simp [upd, t2], by simp [upd, e3], by simp [upd, t3]⟩, k + 1, by simp [upd], by omega, hsn⟩, by simp [upd, numOf, e6]; omega⟩
        ·
          rw [hv, Bool.true_and] at hw
          subst hw
          cases w
          ·
            simp only [go_sem, seval, eq_self, reduceCtorEq, e2, t2, e3, t3, e6, q, g0, z0, z1, n2, ha0, ha1, hz2, hd1, hdd, ht, hlen, cRef2_at, spForm_mv, hF, spROnE_mv, hE, spReadsL_mv, hR, spAnyE_mv, hA, Int.toNat_natCast, List.getElem?_map, List.length_map, Ins.v, Nat.mul_one, Nat.zero_add, f4, f5, f1, f3, hk0, hv]
            repeat' ((first | (refine AG_of ?_ ?_ <;> intro h) | (refine AB_of ?_ ?_ <;> intro h) | (refine A_draw_of [] [] (by kernel_rfl) ?_ <;> have h := mark)) <;> simp only [go_sem, seval, eq_self, reduceCtorEq, e2, t2, e3, t3, e6, q, g0, z0, z1, n2, ha0, ha1, hz2, hd1, hdd, ht, hlen, cRef2_at, spForm_mv, hF, spROnE_mv, hE, spReadsL_mv, hR, spAnyE_mv, hA, Int.toNat_natCast, List.getElem?_map, List.length_map, Ins.v, Nat.mul_one, Nat.zero_add, f4, f5, f1, f3, hk0, hv, h])
            exact ⟨⟨⟨by simp [upd, e2], by simp [upd, t2], by simp [upd, e3], by simp [upd, t3]⟩, k + 1, by simp [upd], by omega, hsn⟩, by simp [upd, numOf, e6]; omega⟩
          ·
            simp only [go_sem, seval, eq_self, reduceCtorEq, e2, t2, e3, t3, e6, q, g0, z0, z1, n2, ha0, ha1, hz2, hd1, hdd, ht, hlen, cRef2_at, spForm_mv, hF, spROnE_mv, hE, spReadsL_mv, hR, spAnyE_mv, hA, Int.toNat_natCast, List.getElem?_map, List.length_map, Ins.v, Nat.mul_one, Nat.zero_add, f4, f5, f1, f3, hk0, hv]
            repeat' ((first | (refine AG_of ?_ ?_ <;> intro h) | (refine AB_of ?_ ?_ <;> intro h) | (refine A_draw_of [] [] (by kernel_rfl) ?_ <;> have h := mark)) <;> simp only [go_sem, seval, eq_self, reduceCtorEq, e2, t2, e3, t3, e6, q, g0, z0, z1, n2, ha0, ha1, hz2, hd1, hdd, ht, hlen, cRef2_at, spForm_mv, hF, spROnE_mv, hE, spReadsL_mv, hR, spAnyE_mv, hA, Int.toNat_natCast, List.getElem?_map, List.length_map, Ins.v, Nat.mul_one, Nat.zero_add, f4, f5, f1, f3, hk0, hv, h])
            all_goals (first | refine fin_ret ?_ | refine fin_normal ?_)
            all_goals simp only [resOf, Tryz.results35, Tryz.ntmps35, go_sem, seval, eq_self, reduceCtorEq]
            all_goals (rw [hno rfl]; try simp)
    ·
      have f4 : (f == 4) = false := by simp; omega
      have f5 : (f == 5) = false := by simp; omega
      rw [f4, f5] at hw
      have e1 : w = false := by
        rw [hw]
        have : (decide (1 ≤ f) && decide (f ≤ 3)) = false := by simp; omega
        rw [this]; rfl
      subst e1
      cases f1 : decide (1 ≤ f)
      ·
        simp only [go_sem, seval, eq_self, reduceCtorEq, e2, t2, e3, t3, e6, q, g0, z0, z1, n2, ha0, ha1, hz2, hd1, hdd, ht, hlen, cRef2_at, spForm_mv, hF, spROnE_mv, hE, spReadsL_mv, hR, spAnyE_mv, hA, Int.toNat_natCast, List.getElem?_map, List.length_map, Ins.v, Nat.mul_one, Nat.zero_add, f4, f5, f1]
        repeat' ((first | (refine AG_of ?_ ?_ <;> intro h) | (refine AB_of ?_ ?_ <;> intro h) | (refine A_draw_of [] [] (by kernel_rfl) ?_ <;> have h := mark)) <;> simp only [go_sem, seval, eq_self, reduceCtorEq, e2, t2, e3, t3, e6, q, g0, z0, z1, n2, ha0, ha1, hz2, hd1, hdd, ht, hlen, cRef2_at, spForm_mv, hF, spROnE_mv, hE, spReadsL_mv, hR, spAnyE_mv, hA, Int.toNat_natCast, List.getElem?_map, List.length_map, Ins.v, Nat.mul_one, Nat.zero_add, f4, f5, f1, h])
        exact ⟨⟨⟨by simp [upd, e2], by simp [upd, t2], by simp [upd, e3], by simp [upd, t3]⟩, k + 1, by simp [upd], by omega, hsn⟩, by simp [upd, numOf, e6]; omega⟩
      ·
        have f3 : decide (f ≤ 3) = false := by simp at f1 ⊢; omega
        simp only [go_sem, seval, eq_self, reduceCtorEq, e2, t2, e3, t3, e6, q, g0, z0, z1, n2, ha0, ha1, hz2, hd1, hdd, ht, hlen, cRef2_at, spForm_mv, hF, spROnE_mv, hE, spReadsL_mv, hR, spAnyE_mv, hA, Int.toNat_natCast, List.getElem?_map, List.length_map, Ins.v, Nat.mul_one, Nat.zero_add, f4, f5, f1, f3]
        repeat' ((first | (refine AG_of ?_ ?_ <;> intro h) | (refine AB_of ?_ ?_ <;> intro h) | (refine A_draw_of [] [] (by kernel_rfl) ?_ <;> have h := mark)) <;> simp only [go_sem, seval, eq_self, reduceCtorEq, e2, t2, e3, t3, e6, q, g0, z0, z1, n2, ha0, ha1, hz2, hd1, hdd, ht, hlen, cRef2_at, spForm_mv, hF, spROnE_mv, hE, spReadsL_mv, hR, spAnyE_mv, hA, Int.toNat_natCast, List.getElem?_map, List.length_map, Ins.v, Nat.mul_one, Nat.zero_add, f4, f5, f1, f3, h])
        exact ⟨⟨⟨by simp [upd, e2], by simp [upd, t2], by simp [upd, e3], by simp [upd, t3]⟩, k + 1, by simp [upd], by omega, hsn⟩, by simp [upd, numOf, e6]; omega⟩

end Go.Proofs.YtkfmecmmbnehjaaGreat
