/-
EmitPairs. No condition.
-/
import Derived.Test.YtnhpkdkffpagdaaEg
namespace Go.Proofs.Ytnhpkdkffpagdaa
set_option linter.unusedSimpArgs false
set_option linter.unusedVariables false

/-- a row, or nothing, as a list that is read -/
def asLst0 (sz : Nat) : V → V
  | .own sz' e l => if sz' = sz then .lst true sz l else .own sz' e l
  | .s (.slice none 0 0) => .lst true sz []
  | r => r
theorem impl_lst0 {P : Program} {f : Nat} {sp : Spec} (sz : Nat) (h : Impl P f sp) : Impl P f ⟨sp.mv, fun xs => (sp.fn xs).map (asLst0 sz)⟩ := by
  refine ⟨h.1, fun xs r hr vs w J ha => ?_⟩
  obtain ⟨r0, h0, rfl⟩ := Option.map_eq_some_iff.1 hr
  by_cases c : ∃ e l, r0 = .own sz e l
  · obtain ⟨e, l, rfl⟩ := c
    have := (impl_lst h).2 xs (.lst true sz l) (by simp only [h0, Option.map_some]; rfl) vs w J ha
    simpa only [asLst0, if_true] using this
  by_cases c2 : r0 = .s (.slice none 0 0)
  · subst c2
    refine (h.2 xs _ h0 vs w J ha).mono fun e w' ⟨v, he, hf, hres⟩ => ⟨v, he, hf, ?_⟩
    have hres' : RC w' (fun _ => False) (Fresh w J) true v (.s (.slice none 0 0)) := hres
    cases hres'
    show RC w' (fun _ => False) (Fresh w J) true _ (.lst true sz [])
    exact .lst true true sz [] none 0 [] (Nat.le_refl _) (fun x hx => by cases hx) rfl (fun i u x hu _ => by simp at hu) (fun u hu => by cases hu) (.inl rfl)
  · have e : asLst0 sz r0 = r0 := by
      unfold asLst0
      split
      · rename_i sz' e l
        rw [if_neg (fun q => c ⟨e, l, by rw [q]⟩)]
      · exact absurd rfl c2
      · rfl
    rw [e]
    exact h.2 xs r0 h0 vs w J ha
def spA0 : Spec := ⟨[], fun xs => (spA.fn xs).map (asLst0 9)⟩
def spE0 : Spec := ⟨[], fun xs => (spE.fn xs).map (asLst0 9)⟩
theorem spA0_mv : spA0.mv = [] := rfl
theorem spE0_mv : spE0.mv = [] := rfl
theorem asLst0_ownC (l : List Cell) : asLst0 9 (ownC l) = .lst true 9 (l.map Cell.v) := by cases l <;> rfl
theorem spA0_v {o : List Int} (ho : o.length = 16) (op d a b imm pc off : Int) : spA0.fn [.agg [.s (.int .i64 op), .s (.int .i64 d), .s (.int .i64 a), .s (.int .i64 b), .s (.int .i64 imm)], .agg (o.map iv), .s (.int .i64 pc), .s (.int .i64 off)] = some (.lst true 9 ((aCells ⟨op, d, a, b, imm⟩ o pc off).map Cell.v)) := by
  simp only [spA0, spA_v ho, Option.map_some, asLst0_ownC]
theorem spE0_v {o : List Int} (ho : o.length = 16) (op d a b imm pc off : Int) : spE0.fn [.agg [.s (.int .i64 op), .s (.int .i64 d), .s (.int .i64 a), .s (.int .i64 b), .s (.int .i64 imm)], .agg (o.map iv), .s (.int .i64 pc), .s (.int .i64 off)] = some (.lst true 9 ((eCells ⟨op, d, a, b, imm⟩ o pc off).map Cell.v)) := by
  simp only [spE0, spE_v ho, Option.map_some, asLst0_ownC]
def cE8 : Orc := upd (upd cE6 26 (some spA0)) 27 (some spE0)
theorem cE8_ok : ∀ g sp, cE8 g = some sp → Impl Try.prog g sp := orc_upd (orc_upd cE6_ok (impl_lst0 9 emitA_impl)) (impl_lst0 9 emitE_impl)
theorem cE8_at : cE8 23 = some spTrue ∧ cE8 26 = some spA0 ∧ cE8 27 = some spE0 ∧ cE8 28 = some spRight ∧ cE8 29 = some spForm := ⟨rfl, rfl, rfl, rfl, rfl⟩

/-- a row of numbers that grows from nothing at a place -/
def RowI (x : V) (b : Nat) (k : Blk) (l : List Int) : Prop :=
  (l = [] ∧ x = .s (.slice none 0 0)) ∨ (l ≠ [] ∧ ∃ v, x = .sw b v l.length ∧ k = ⟨v, .row 1 3 (l.map iv)⟩)
theorem RowI.same {x x' : V} {b : Nat} {k k' : Blk} {l : List Int} (h : RowI x b k l) (hx : x' = x) (hk : k' = k) : RowI x' b k' l := by rw [hx, hk]; exact h
theorem regsOf_snoc (k : Int) (l : List Cell) (c : Cell) : regsOf k (l ++ [c]) = if (c.kind == k) = true then regsOf k l ++ [c.reg] else regsOf k l := by
  unfold regsOf
  rw [List.filter_append, List.map_append]
  by_cases h : (c.kind == k) = true
  · rw [if_pos h, List.filter_cons, if_pos h]; rfl
  · rw [if_neg h, List.filter_cons, if_neg h]; simp
structure PairE (s : S) (op d a b imm pc off : Int) (o : List Int) (A E : List Cell) : Prop where
  e2 : s.env 2 = .s (.int .i64 pc)
  e3 : s.env 3 = .s (.int .i64 off)
  e4 : s.env 4 = .ptr 4 1 0
  t4 : s.st 4 = ⟨1, .box [.s (.int .i64 op), .s (.int .i64 d), .s (.int .i64 a), .s (.int .i64 b), .s (.int .i64 imm)]⟩
  e5 : s.env 5 = .ptr 5 1 0
  t5 : s.st 5 = ⟨1, .box (o.map iv)⟩
  e10 : s.env 10 = .lst true 9 (A.map Cell.v)
  e11 : s.env 11 = .lst true 9 (E.map Cell.v)
  e12 : s.env 12 = .ptr 12 1 0
  e13 : s.env 13 = .ptr 13 1 0
def pairI1 (op d a b imm pc off : Int) (o : List Int) (A E : List Cell) (s : S) : Prop :=
  PairE s op d a b imm pc off o A E ∧ s.st 13 = ⟨1, .box (zero13.map iv)⟩ ∧ s.env 15 = .s (.slice none 0 0) ∧
  ∃ k : Nat, s.env 16 = .s (.int .i64 k) ∧ k ≤ A.length ∧ s.st 12 = ⟨1, .box ((cntS (A.take k)).map iv)⟩ ∧ RowI (s.env 14) 100 (s.st 100) (regsOf 5 (A.take k))
def pairI2 (op d a b imm pc off : Int) (o : List Int) (A E : List Cell) (s : S) : Prop :=
  PairE s op d a b imm pc off o A E ∧ s.st 12 = ⟨1, .box ((cntS A).map iv)⟩ ∧ RowI (s.env 14) 100 (s.st 100) (regsOf 5 A) ∧
  ∃ k : Nat, s.env 17 = .s (.int .i64 k) ∧ k ≤ E.length ∧ s.st 13 = ⟨1, .box ((cntS (E.take k)).map iv)⟩ ∧ RowI (s.env 15) 161 (s.st 161) (regsOf 6 (E.take k))
def pairI3 (op d a b imm pc off : Int) (o : List Int) (A E : List Cell) (l : List Int) (v v' : Nat) (s : S) : Prop :=
  PairE s op d a b imm pc off o A E ∧ s.st 12 = ⟨1, .box ((cntS A).map iv)⟩ ∧ s.st 13 = ⟨1, .box ((cntS E).map iv)⟩ ∧ s.env 14 = .sw 100 v l.length ∧ s.st 100 = ⟨v, .row 1 3 (l.map iv)⟩ ∧ s.env 15 = .sw 161 v' l.length ∧ s.st 161 = ⟨v', .row 1 3 (l.map iv)⟩ ∧
  ∃ k : Nat, s.env 18 = .s (.int .i64 k) ∧ k ≤ l.length
theorem row_len {l : List Int} {A : List Cell} {k : Int} {n : Nat} (h : l = regsOf k (A.take n)) (hA : A.length ≤ 3) : l.length ≤ 3 := by
  subst h
  unfold regsOf
  rw [List.length_map]
  have := List.length_filter_le (fun c : Cell => c.kind == k) (A.take n)
  have h2 : (A.take n).length ≤ A.length := by rw [List.length_take]; omega
  omega
def spEPairs : Spec := ⟨[], fun xs => match xs with
  | [.agg [.s (.int .i64 _), .s (.int .i64 _), .s (.int .i64 _), .s (.int .i64 _), .s (.int .i64 _)], y, .s (.int .i64 _), .s (.int .i64 _)] => (ownOf y).bind fun _ => some (.s (.bool true))
  | _ => none⟩
set_option maxHeartbeats 8000000 in
set_option maxRecDepth 8000 in
theorem epairs_impl : Impl Try.prog 9 spEPairs := by
  refine impl_walk mixed cE8_ok eqT_ok Try.func9 rfl Try.ntmps9 (by kernel_rfl) ?_
  intro xs r h
  unfold spEPairs at h
  simp only at h
  (try split at h) <;> try (cases (show none = some r from h); done)
  rename_i op d a b imm y pc off
  obtain ⟨o, ho, h2⟩ := Option.bind_eq_some_iff.1 h
  clear h
  cases h2
  obtain ⟨rfl, hlen⟩ := ownOf_eq ho
  clear ho
  refine ⟨by simp [ownV], ?_⟩
  have ht := take_iv hlen
  cases c1 : rightB ⟨op, d, a, b, imm⟩
  ·
    simp only [go_sem, seval, eq_self, reduceCtorEq, cE8_at, spTrue_mv, spTrue_fn, spRight_mv, spRight_fn, c1, ownV]
    repeat' ((first | (refine AG_of ?_ ?_ <;> intro h) | (refine AB_of ?_ ?_ <;> intro h) | (refine A_draw_of [] [] (by kernel_rfl) ?_ <;> have h := mark)) <;> simp only [go_sem, seval, eq_self, reduceCtorEq, cE8_at, spTrue_mv, spTrue_fn, spRight_mv, spRight_fn, c1, ownV, h])
    all_goals (first | refine fin_ret ?_ | refine fin_normal ?_)
    all_goals simp only [resOf, Try.results9, Try.ntmps9, go_sem, seval, eq_self, reduceCtorEq]
  have hA := spA0_v hlen op d a b imm pc off
  have hE := spE0_v hlen op d a b imm pc off
  have hP := pairs_ok c1 o pc off
  obtain ⟨A, hA0⟩ : ∃ A, aCells ⟨op, d, a, b, imm⟩ o pc off = A := ⟨_, rfl⟩
  obtain ⟨E, hE0⟩ : ∃ E, eCells ⟨op, d, a, b, imm⟩ o pc off = E := ⟨_, rfl⟩
  rw [hA0] at hA hP
  rw [hE0] at hE hP
  clear hA0 hE0
  have hla := hP.la
  have hle := hP.le
  simp only [go_sem, seval, eq_self, reduceCtorEq, cE8_at, spTrue_mv, spTrue_fn, spRight_mv, spRight_fn, c1, ownV, spA0_mv, spE0_mv, hA, hE, ht, hlen, List.length_map]
  repeat' ((first | (refine AG_of ?_ ?_ <;> intro h) | (refine AB_of ?_ ?_ <;> intro h) | (refine A_draw_of [] [] (by kernel_rfl) ?_ <;> have h := mark)) <;> simp only [go_sem, seval, eq_self, reduceCtorEq, cE8_at, spTrue_mv, spTrue_fn, spRight_mv, spRight_fn, c1, ownV, spA0_mv, spE0_mv, hA, hE, ht, hlen, List.length_map, h])
  refine A_loop (pairI1 op d a b imm pc off o A E) (fun s => A.length - (numOf (s.env 16)).toNat) ?_ ?_
  · exact ⟨⟨by simp [upd, init, V.unfr], by simp [upd, init, V.unfr], by simp [upd], by simp [upd, init, V.unfr, V.unfrL, V.cells], by simp [upd], by simp [upd, init, V.unfr, unfrL_iv, V.cells], by simp [upd], by simp [upd], by simp [upd], by simp [upd]⟩, by simp [upd]; rfl, by simp [upd], 0, by simp [upd], by omega, by simp [upd]; rfl, .inl ⟨by simp [regsOf], by simp [upd]⟩⟩
  intro s hs
  obtain ⟨hp, t13, e15, k, ek, hk, eb, hr⟩ := hs
  rcases Nat.lt_or_ge k A.length with hlt | hge
  · obtain ⟨c, q⟩ : ∃ i, A[k]? = some i := ⟨A[k], List.getElem?_eq_getElem hlt⟩
    have f0 : decide ((k : Int) < A.length) = true := by simp; omega
    have z0 := Int.natCast_nonneg k
    have n2 : IntKind.i64.wrap ((k : Int) + 1) = (k + 1 : Nat) := by rw [w_i64 (by omega) (by omega)]; omega
    obtain ⟨k1, k2, hpc, hof⟩ := hP.ka c (List.mem_of_getElem? q)
    obtain ⟨kn, hkn⟩ : ∃ n : Nat, c.kind = n := ⟨c.kind.toNat, by omega⟩
    have g1 : decide ((kn : Int) < 1) = false := by simp; omega
    have g2 : decide (12 < (kn : Int)) = false := by simp; omega
    have kz := Int.natCast_nonneg kn
    have kh : (kn : Int) < 13 := by omega
    have hcl := cntS_len (A.take k)
    have kl : kn + 1 ≤ 13 := by omega
    have hbd := cntS_bd (A.take k) (fun c hc => by have := hP.ka c (List.mem_of_mem_take hc); omega) kn
    have hbl : (A.take k).length ≤ 3 := by rw [List.length_take]; omega
    have hdk := drop_iv (o := cntS (A.take k)) (k := kn) (by omega)
    have w1 : IntKind.i64.wrap (oAt (cntS (A.take k)) kn + 1) = oAt (cntS (A.take k)) kn + 1 := w_i64 (by omega) (by omega)
    have hs1 := spl_iv (o := cntS (A.take k)) (k := kn) (by omega) (oAt (cntS (A.take k)) kn + 1)
    have htk : A.take (k + 1) = A.take k ++ [c] := by rw [List.take_add_one, q]; rfl
    have hsn : cntS (A.take (k + 1)) = (cntS (A.take k)).set kn (oAt (cntS (A.take k)) kn + 1) := by rw [htk, cntS_snoc, hkn]; rfl
    rw [← hsn] at hs1
    have hrs := regsOf_snoc 5 (A.take k) c
    rw [← htk, hkn] at hrs
    obtain ⟨l, hl⟩ : ∃ l, regsOf 5 (A.take k) = l := ⟨_, rfl⟩
    have hl3 := row_len hl.symm hla
    rw [hl] at hr hrs
    cases b5 : ((kn : Int) == 5)
    · rw [b5] at hrs
      simp only [Bool.false_eq_true, if_false] at hrs
      simp only [go_sem, seval, eq_self, reduceCtorEq, hp.e2, hp.e3, hp.e4, hp.t4, hp.e5, hp.t5, hp.e10, hp.e11, hp.e12, hp.e13, ek, eb, q, f0, z0, n2, g1, g2, hpc, hof, hkn, kz, kh, kl, hdk, w1, hs1, hcl, Cell.v, Int.toNat_natCast, Nat.mul_one, Nat.zero_add, List.getElem?_map, List.length_map, List.length_set, bne_self_eq_false, t13, e15, b5]
      repeat' ((first | (refine AG_of ?_ ?_ <;> intro h) | (refine AB_of ?_ ?_ <;> intro h) | (refine A_draw_of [] [] (by kernel_rfl) ?_ <;> have h := mark)) <;> simp only [go_sem, seval, eq_self, reduceCtorEq, hp.e2, hp.e3, hp.e4, hp.t4, hp.e5, hp.t5, hp.e10, hp.e11, hp.e12, hp.e13, ek, eb, q, f0, z0, n2, g1, g2, hpc, hof, hkn, kz, kh, kl, hdk, w1, hs1, hcl, Cell.v, Int.toNat_natCast, Nat.mul_one, Nat.zero_add, List.getElem?_map, List.length_map, List.length_set, bne_self_eq_false, t13, e15, b5, h])
      exact ⟨⟨⟨by simp [upd, hp.e2], by simp [upd, hp.e3], by simp [upd, hp.e4], by simp [upd, hp.t4], by simp [upd, hp.e5], by simp [upd, hp.t5], by simp [upd, hp.e10], by simp [upd, hp.e11], by simp [upd, hp.e12], by simp [upd, hp.e13]⟩, by simp [upd, t13], by simp [upd, e15], k + 1, by simp [upd], by omega, by simp [upd], by rw [hrs]; exact hr.same (by simp [upd]) (by simp [upd])⟩, by simp [upd, numOf, ek]; omega⟩
    · rw [b5] at hrs
      simp only [if_true] at hrs
      rcases hr with ⟨hl0, hx⟩ | ⟨hl0, v, hx, hb⟩
      ·
        simp only [go_sem, seval, eq_self, reduceCtorEq, hp.e2, hp.e3, hp.e4, hp.t4, hp.e5, hp.t5, hp.e10, hp.e11, hp.e12, hp.e13, ek, eb, q, f0, z0, n2, g1, g2, hpc, hof, hkn, kz, kh, kl, hdk, w1, hs1, hcl, Cell.v, Int.toNat_natCast, Nat.mul_one, Nat.zero_add, List.getElem?_map, List.length_map, List.length_set, bne_self_eq_false, t13, e15, b5, hx]
        repeat' ((first | (refine AG_of ?_ ?_ <;> intro h) | (refine AB_of ?_ ?_ <;> intro h) | (refine A_draw_of [] [] (by kernel_rfl) ?_ <;> have h := mark)) <;> simp only [go_sem, seval, eq_self, reduceCtorEq, hp.e2, hp.e3, hp.e4, hp.t4, hp.e5, hp.t5, hp.e10, hp.e11, hp.e12, hp.e13, ek, eb, q, f0, z0, n2, g1, g2, hpc, hof, hkn, kz, kh, kl, hdk, w1, hs1, hcl, Cell.v, Int.toNat_natCast, Nat.mul_one, Nat.zero_add, List.getElem?_map, List.length_map, List.length_set, bne_self_eq_false, t13, e15, b5, hx, h])
        exact ⟨⟨⟨by simp [upd, hp.e2], by simp [upd, hp.e3], by simp [upd, hp.e4], by simp [upd, hp.t4], by simp [upd, hp.e5], by simp [upd, hp.t5], by simp [upd, hp.e10], by simp [upd, hp.e11], by simp [upd, hp.e12], by simp [upd, hp.e13]⟩, by simp [upd, t13], by simp [upd, e15], k + 1, by simp [upd], by omega, by simp [upd], by rw [hrs, hl0]; exact .inr ⟨by simp, (s.st 100).ver + 1, by simp [upd], by simp [upd, iv]⟩⟩, by simp [upd, numOf, ek]; omega⟩
      · have fl : (l.length + 1) * 8 ≤ 140737488355328 := by omega
        simp only [go_sem, seval, eq_self, reduceCtorEq, hp.e2, hp.e3, hp.e4, hp.t4, hp.e5, hp.t5, hp.e10, hp.e11, hp.e12, hp.e13, ek, eb, q, f0, z0, n2, g1, g2, hpc, hof, hkn, kz, kh, kl, hdk, w1, hs1, hcl, Cell.v, Int.toNat_natCast, Nat.mul_one, Nat.zero_add, List.getElem?_map, List.length_map, List.length_set, bne_self_eq_false, t13, e15, b5, hx, hb, fl]
        repeat' ((first | (refine AG_of ?_ ?_ <;> intro h) | (refine AB_of ?_ ?_ <;> intro h) | (refine A_draw_of [] [] (by kernel_rfl) ?_ <;> have h := mark)) <;> simp only [go_sem, seval, eq_self, reduceCtorEq, hp.e2, hp.e3, hp.e4, hp.t4, hp.e5, hp.t5, hp.e10, hp.e11, hp.e12, hp.e13, ek, eb, q, f0, z0, n2, g1, g2, hpc, hof, hkn, kz, kh, kl, hdk, w1, hs1, hcl, Cell.v, Int.toNat_natCast, Nat.mul_one, Nat.zero_add, List.getElem?_map, List.length_map, List.length_set, bne_self_eq_false, t13, e15, b5, hx, hb, fl, h])
        exact ⟨⟨⟨by simp [upd, hp.e2], by simp [upd, hp.e3], by simp [upd, hp.e4], by simp [upd, hp.t4], by simp [upd, hp.e5], by simp [upd, hp.t5], by simp [upd, hp.e10], by simp [upd, hp.e11], by simp [upd, hp.e12], by simp [upd, hp.e13]⟩, by simp [upd, t13], by simp [upd, e15], k + 1, by simp [upd], by omega, by simp [upd], by rw [hrs]; exact .inr ⟨by simp, v + 1, by simp [upd], by simp [upd, iv]⟩⟩, by simp [upd, numOf, ek]; omega⟩
  · have hkl : k = A.length := by omega
    have f0 : decide ((k : Int) < A.length) = false := by simp; omega
    rw [hkl, List.take_length] at eb hr
    simp only [go_sem, seval, eq_self, reduceCtorEq, hp.e2, hp.e3, hp.e4, hp.t4, hp.e5, hp.t5, hp.e10, hp.e11, hp.e12, hp.e13, t13, e15, ek, eb, f0, List.length_map]
    repeat' ((first | (refine AG_of ?_ ?_ <;> intro h) | (refine AB_of ?_ ?_ <;> intro h) | (refine A_draw_of [] [] (by kernel_rfl) ?_ <;> have h := mark)) <;> simp only [go_sem, seval, eq_self, reduceCtorEq, hp.e2, hp.e3, hp.e4, hp.t4, hp.e5, hp.t5, hp.e10, hp.e11, hp.e12, hp.e13, t13, e15, ek, eb, f0, List.length_map, h])
    refine A_loop (pairI2 op d a b imm pc off o A E) (fun s => E.length - (numOf (s.env 17)).toNat) ?_ ?_
    · refine ⟨⟨by simp [upd, hp.e2], by simp [upd, hp.e3], by simp [upd, hp.e4], by simp [upd, hp.t4], by simp [upd, hp.e5], by simp [upd, hp.t5], by simp [upd, hp.e10], by simp [upd, hp.e11], by simp [upd, hp.e12], by simp [upd, hp.e13]⟩, by simp [upd, eb], ?_, 0, by simp [upd], by omega, by simp [upd, t13]; rfl, .inl ⟨by simp [regsOf], by simp [upd, e15]⟩⟩
      rcases hr with ⟨hl0, hx⟩ | ⟨hl0, v, hx, hb⟩
      · exact .inl ⟨hl0, by simp [upd, hx]⟩
      · exact .inr ⟨hl0, v, by simp [upd, hx], by simp [upd, hb]⟩
    clear hp ek eb hr t13 e15 hk hkl f0 hge
    clear k s
    intro s hs
    obtain ⟨hp, t12, ra, k, ek, hk, eb, hr⟩ := hs
    rcases Nat.lt_or_ge k E.length with hlt | hge
    · obtain ⟨c, q⟩ : ∃ i, E[k]? = some i := ⟨E[k], List.getElem?_eq_getElem hlt⟩
      have f0 : decide ((k : Int) < E.length) = true := by simp; omega
      have z0 := Int.natCast_nonneg k
      have n2 : IntKind.i64.wrap ((k : Int) + 1) = (k + 1 : Nat) := by rw [w_i64 (by omega) (by omega)]; omega
      obtain ⟨k1, k2, hpc, hof⟩ := hP.ke c (List.mem_of_getElem? q)
      obtain ⟨kn, hkn⟩ : ∃ n : Nat, c.kind = n := ⟨c.kind.toNat, by omega⟩
      have g1 : decide ((kn : Int) < 1) = false := by simp; omega
      have g2 : decide (12 < (kn : Int)) = false := by simp; omega
      have kz := Int.natCast_nonneg kn
      have kh : (kn : Int) < 13 := by omega
      have hcl := cntS_len (E.take k)
      have kl : kn + 1 ≤ 13 := by omega
      have hbd := cntS_bd (E.take k) (fun c hc => by have := hP.ke c (List.mem_of_mem_take hc); omega) kn
      have hbl : (E.take k).length ≤ 3 := by rw [List.length_take]; omega
      have hdk := drop_iv (o := cntS (E.take k)) (k := kn) (by omega)
      have w1 : IntKind.i64.wrap (oAt (cntS (E.take k)) kn + 1) = oAt (cntS (E.take k)) kn + 1 := w_i64 (by omega) (by omega)
      have hs1 := spl_iv (o := cntS (E.take k)) (k := kn) (by omega) (oAt (cntS (E.take k)) kn + 1)
      have htk : E.take (k + 1) = E.take k ++ [c] := by rw [List.take_add_one, q]; rfl
      have hsn : cntS (E.take (k + 1)) = (cntS (E.take k)).set kn (oAt (cntS (E.take k)) kn + 1) := by rw [htk, cntS_snoc, hkn]; rfl
      rw [← hsn] at hs1
      have hrs := regsOf_snoc 6 (E.take k) c
      rw [← htk, hkn] at hrs
      obtain ⟨l, hl⟩ : ∃ l, regsOf 6 (E.take k) = l := ⟨_, rfl⟩
      have hl3 := row_len hl.symm hle
      rw [hl] at hr hrs
      cases b5 : ((kn : Int) == 6)
      · rw [b5] at hrs
        simp only [Bool.false_eq_true, if_false] at hrs
        simp only [go_sem, seval, eq_self, reduceCtorEq, hp.e2, hp.e3, hp.e4, hp.t4, hp.e5, hp.t5, hp.e10, hp.e11, hp.e12, hp.e13, ek, eb, q, f0, z0, n2, g1, g2, hpc, hof, hkn, kz, kh, kl, hdk, w1, hs1, hcl, Cell.v, Int.toNat_natCast, Nat.mul_one, Nat.zero_add, List.getElem?_map, List.length_map, List.length_set, bne_self_eq_false, t12, b5]
        repeat' ((first | (refine AG_of ?_ ?_ <;> intro h) | (refine AB_of ?_ ?_ <;> intro h) | (refine A_draw_of [] [] (by kernel_rfl) ?_ <;> have h := mark)) <;> simp only [go_sem, seval, eq_self, reduceCtorEq, hp.e2, hp.e3, hp.e4, hp.t4, hp.e5, hp.t5, hp.e10, hp.e11, hp.e12, hp.e13, ek, eb, q, f0, z0, n2, g1, g2, hpc, hof, hkn, kz, kh, kl, hdk, w1, hs1, hcl, Cell.v, Int.toNat_natCast, Nat.mul_one, Nat.zero_add, List.getElem?_map, List.length_map, List.length_set, bne_self_eq_false, t12, b5, h])
        exact ⟨⟨⟨by simp [upd, hp.e2], by simp [upd, hp.e3], by simp [upd, hp.e4], by simp [upd, hp.t4], by simp [upd, hp.e5], by simp [upd, hp.t5], by simp [upd, hp.e10], by simp [upd, hp.e11], by simp [upd, hp.e12], by simp [upd, hp.e13]⟩, by simp [upd, t12], ra.same (by simp [upd]) (by simp [upd]), k + 1, by simp [upd], by omega, by simp [upd], by rw [hrs]; exact hr.same (by simp [upd]) (by simp [upd])⟩, by simp [upd, numOf, ek]; omega⟩
      · rw [b5] at hrs
        simp only [if_true] at hrs
        rcases hr with ⟨hl0, hx⟩ | ⟨hl0, v, hx, hb⟩
        ·
          simp only [go_sem, seval, eq_self, reduceCtorEq, hp.e2, hp.e3, hp.e4, hp.t4, hp.e5, hp.t5, hp.e10, hp.e11, hp.e12, hp.e13, ek, eb, q, f0, z0, n2, g1, g2, hpc, hof, hkn, kz, kh, kl, hdk, w1, hs1, hcl, Cell.v, Int.toNat_natCast, Nat.mul_one, Nat.zero_add, List.getElem?_map, List.length_map, List.length_set, bne_self_eq_false, t12, b5, hx]
          repeat' ((first | (refine AG_of ?_ ?_ <;> intro h) | (refine AB_of ?_ ?_ <;> intro h) | (refine A_draw_of [] [] (by kernel_rfl) ?_ <;> have h := mark)) <;> simp only [go_sem, seval, eq_self, reduceCtorEq, hp.e2, hp.e3, hp.e4, hp.t4, hp.e5, hp.t5, hp.e10, hp.e11, hp.e12, hp.e13, ek, eb, q, f0, z0, n2, g1, g2, hpc, hof, hkn, kz, kh, kl, hdk, w1, hs1, hcl, Cell.v, Int.toNat_natCast, Nat.mul_one, Nat.zero_add, List.getElem?_map, List.length_map, List.length_set, bne_self_eq_false, t12, b5, hx, h])
          exact ⟨⟨⟨by simp [upd, hp.e2], by simp [upd, hp.e3], by simp [upd, hp.e4], by simp [upd, hp.t4], by simp [upd, hp.e5], by simp [upd, hp.t5], by simp [upd, hp.e10], by simp [upd, hp.e11], by simp [upd, hp.e12], by simp [upd, hp.e13]⟩, by simp [upd, t12], ra.same (by simp [upd]) (by simp [upd]), k + 1, by simp [upd], by omega, by simp [upd], by rw [hrs, hl0]; exact .inr ⟨by simp, (s.st 161).ver + 1, by simp [upd], by simp [upd, iv]⟩⟩, by simp [upd, numOf, ek]; omega⟩
        · have fl : (l.length + 1) * 8 ≤ 140737488355328 := by omega
          simp only [go_sem, seval, eq_self, reduceCtorEq, hp.e2, hp.e3, hp.e4, hp.t4, hp.e5, hp.t5, hp.e10, hp.e11, hp.e12, hp.e13, ek, eb, q, f0, z0, n2, g1, g2, hpc, hof, hkn, kz, kh, kl, hdk, w1, hs1, hcl, Cell.v, Int.toNat_natCast, Nat.mul_one, Nat.zero_add, List.getElem?_map, List.length_map, List.length_set, bne_self_eq_false, t12, b5, hx, hb, fl]
          repeat' ((first | (refine AG_of ?_ ?_ <;> intro h) | (refine AB_of ?_ ?_ <;> intro h) | (refine A_draw_of [] [] (by kernel_rfl) ?_ <;> have h := mark)) <;> simp only [go_sem, seval, eq_self, reduceCtorEq, hp.e2, hp.e3, hp.e4, hp.t4, hp.e5, hp.t5, hp.e10, hp.e11, hp.e12, hp.e13, ek, eb, q, f0, z0, n2, g1, g2, hpc, hof, hkn, kz, kh, kl, hdk, w1, hs1, hcl, Cell.v, Int.toNat_natCast, Nat.mul_one, Nat.zero_add, List.getElem?_map, List.length_map, List.length_set, bne_self_eq_false, t12, b5, hx, hb, fl, h])
          exact ⟨⟨⟨by simp [upd, hp.e2], by simp [upd, hp.e3], by simp [upd, hp.e4], by simp [upd, hp.t4], by simp [upd, hp.e5], by simp [upd, hp.t5], by simp [upd, hp.e10], by simp [upd, hp.e11], by simp [upd, hp.e12], by simp [upd, hp.e13]⟩, by simp [upd, t12], ra.same (by simp [upd]) (by simp [upd]), k + 1, by simp [upd], by omega, by simp [upd], by rw [hrs]; exact .inr ⟨by simp, v + 1, by simp [upd], by simp [upd, iv]⟩⟩, by simp [upd, numOf, ek]; omega⟩
    · have hkl : k = E.length := by omega
      have f0 : decide ((k : Int) < E.length) = false := by simp; omega
      rw [hkl, List.take_length] at eb hr
      rw [← hP.sr] at hr
      have hbn := cntS_bd A (fun c hc => by have := hP.ka c hc; omega)
      have hbm := cntS_bd E (fun c hc => by have := hP.ke c hc; omega)
      have p1 := hP.p1; have p2 := hP.p2; have p3 := hP.p3; have p4 := hP.p4; have p5 := hP.p5; have p6 := hP.p6; have p7 := hP.p7; have p8 := hP.p8; have p9 := hP.p9; have p10 := hP.p10; have p11 := hP.p11
      have hNl := cntS_len A
      have hMl := cntS_len E
      have hon := hP.on
      obtain ⟨N, hN⟩ : ∃ N, cntS A = N := ⟨_, rfl⟩
      obtain ⟨M, hM⟩ : ∃ M, cntS E = M := ⟨_, rfl⟩
      rw [hN] at p1 p2 p3 p4 p5 p6 p7 p8 p9 p10 p11 hbn hNl
      rw [hM] at p2 p4 p5 p6 p7 p8 p10 hbm hMl
      have hn1 : List.drop 1 (N.map iv) = .s (.int .i64 (oAt N 1)) :: List.drop 2 (N.map iv) := drop_iv (k := 1) (by omega)
      have hn2 : List.drop 2 (N.map iv) = .s (.int .i64 (oAt N 2)) :: List.drop 3 (N.map iv) := drop_iv (k := 2) (by omega)
      have hn3 : List.drop 3 (N.map iv) = .s (.int .i64 (oAt N 3)) :: List.drop 4 (N.map iv) := drop_iv (k := 3) (by omega)
      have hn4 : List.drop 4 (N.map iv) = .s (.int .i64 (oAt N 4)) :: List.drop 5 (N.map iv) := drop_iv (k := 4) (by omega)
      have hn9 : List.drop 9 (N.map iv) = .s (.int .i64 (oAt N 9)) :: List.drop 10 (N.map iv) := drop_iv (k := 9) (by omega)
      have hn10 : List.drop 10 (N.map iv) = .s (.int .i64 (oAt N 10)) :: List.drop 11 (N.map iv) := drop_iv (k := 10) (by omega)
      have hn11 : List.drop 11 (N.map iv) = .s (.int .i64 (oAt N 11)) :: List.drop 12 (N.map iv) := drop_iv (k := 11) (by omega)
      have hn12 : List.drop 12 (N.map iv) = .s (.int .i64 (oAt N 12)) :: List.drop 13 (N.map iv) := drop_iv (k := 12) (by omega)
      have hm1 : List.drop 1 (M.map iv) = .s (.int .i64 (oAt M 1)) :: List.drop 2 (M.map iv) := drop_iv (k := 1) (by omega)
      have hm7 : List.drop 7 (M.map iv) = .s (.int .i64 (oAt M 7)) :: List.drop 8 (M.map iv) := drop_iv (k := 7) (by omega)
      have hm8 : List.drop 8 (M.map iv) = .s (.int .i64 (oAt M 8)) :: List.drop 9 (M.map iv) := drop_iv (k := 8) (by omega)
      have hm9 : List.drop 9 (M.map iv) = .s (.int .i64 (oAt M 9)) :: List.drop 10 (M.map iv) := drop_iv (k := 9) (by omega)
      have hm10 : List.drop 10 (M.map iv) = .s (.int .i64 (oAt M 10)) :: List.drop 11 (M.map iv) := drop_iv (k := 10) (by omega)
      have hm11 : List.drop 11 (M.map iv) = .s (.int .i64 (oAt M 11)) :: List.drop 12 (M.map iv) := drop_iv (k := 11) (by omega)
      have hm12 : List.drop 12 (M.map iv) = .s (.int .i64 (oAt M 12)) :: List.drop 13 (M.map iv) := drop_iv (k := 12) (by omega)
      have b1 := hbn 1; have b2 := hbn 2; have b3 := hbn 3; have b9 := hbn 9; have b10 := hbn 10
      have d1 := hbm 1; have d9 := hbm 9; have d10 := hbm 10
      simp only [Int.cast_ofNat_Int] at b1 b2 b3 b9 b10 d1 d9 d10
      have hw1 : IntKind.i64.wrap (oAt N 2 + oAt N 3) = oAt N 2 + oAt N 3 := w_i64 (by omega) (by omega)
      have hw2 : IntKind.i64.wrap (oAt N 9 + oAt M 9) = oAt N 9 + oAt M 9 := w_i64 (by omega) (by omega)
      have hw3 : IntKind.i64.wrap (oAt N 10 + oAt M 10) = oAt N 10 + oAt M 10 := w_i64 (by omega) (by omega)
      have hw4 : IntKind.i64.wrap (oAt N 1 + oAt M 1) = oAt N 1 + oAt M 1 := w_i64 (by omega) (by omega)
      have q1 : (oAt N 2 + oAt N 3 == 1) = (form op == 4) := by rw [Bool.eq_iff_iff]; simpa using p1
      have q2 : (oAt N 3 == oAt M 7) = true := by simpa using p2
      have q3 : (oAt N 4 == 1) = (form op == 5) := by rw [Bool.eq_iff_iff]; simpa using p3
      have q4 : (oAt N 4 == oAt M 8) = true := by simpa using p4
      have q5 : (oAt N 9 + oAt M 9 == oAt N 10 + oAt M 10) = true := by simpa using p5
      have q6 : (oAt N 9 + oAt M 9 == 1) = (form op == 6) := by rw [Bool.eq_iff_iff]; simpa using p6
      have q7 : (oAt N 1 + oAt M 1 == 1) = decide (form op ≤ 3) := by rw [Bool.eq_iff_iff]; simpa using p7
      have q8 : (oAt N 11 == oAt M 11) = true := by simpa using p8
      have q9 : (oAt N 11 == 1) = (form op == 7) := by rw [Bool.eq_iff_iff]; simpa using p9
      have q10 : (oAt N 12 == oAt M 12) = true := by simpa using p10
      have q11 : (oAt N 12 == 1) = (form op == 8) := by rw [Bool.eq_iff_iff]; simpa using p11
      have ga : decide (3 < (A.length : Int)) = false := by simp; omega
      have ge : decide (3 < (E.length : Int)) = false := by simp; omega
      obtain ⟨l, hl⟩ : ∃ l, regsOf 5 A = l := ⟨_, rfl⟩
      have hl3 : l.length ≤ 3 := row_len (n := A.length) (k := 5) (by rw [List.take_length]; exact hl.symm) hla
      rw [hl] at ra hr hon
      rw [hN] at t12
      rw [hM] at eb
      have t13 := eb
      rcases ra with ⟨hl0, hx⟩ | ⟨hl0, v, hx, hb⟩
      · rcases hr with ⟨_, hy⟩ | ⟨hl1, _⟩
        case inr => exact absurd hl0 hl1
        simp only [go_sem, seval, eq_self, reduceCtorEq, hp.e2, hp.e3, hp.e4, hp.t4, hp.e5, hp.t5, hp.e10, hp.e11, hp.e12, hp.e13, t12, t13, ek, f0, hx, hy, ga, ge, List.length_map, bne_self_eq_false]
        repeat' ((first | (refine AG_of ?_ ?_ <;> intro h) | (refine AB_of ?_ ?_ <;> intro h) | (refine A_draw_of [] [] (by kernel_rfl) ?_ <;> have h := mark)) <;> simp only [go_sem, seval, eq_self, reduceCtorEq, hp.e2, hp.e3, hp.e4, hp.t4, hp.e5, hp.t5, hp.e10, hp.e11, hp.e12, hp.e13, t12, t13, ek, f0, hx, hy, ga, ge, List.length_map, bne_self_eq_false, h])
        refine A_round ?_
        simp only [go_sem, seval, eq_self, reduceCtorEq, hx, hy]
        repeat' ((first | (refine AG_of ?_ ?_ <;> intro h) | (refine AB_of ?_ ?_ <;> intro h) | (refine A_draw_of [] [] (by kernel_rfl) ?_ <;> have h := mark)) <;> simp only [go_sem, seval, eq_self, reduceCtorEq, hx, hy, h])
        simp only [go_sem, seval, eq_self, reduceCtorEq, hp.e2, hp.e3, hp.e4, hp.t4, hp.e5, hp.t5, hp.e10, hp.e11, hp.e12, hp.e13, t12, t13, hN, hM, cE8_at, spForm_mv, spForm_fn, hn1, hn2, hn3, hn4, hn9, hn10, hn11, hn12, hm1, hm7, hm8, hm9, hm10, hm11, hm12, hw1, hw2, hw3, hw4, q1, q2, q3, q4, q5, q6, q7, q8, q9, q10, q11, hNl, hMl, hx, hy, List.length_map, List.append_eq]
        repeat' ((first | (refine AG_of ?_ ?_ <;> intro h) | (refine AB_of ?_ ?_ <;> intro h) | (refine A_draw_of [] [] (by kernel_rfl) ?_ <;> have h := mark)) <;> simp only [go_sem, seval, eq_self, reduceCtorEq, hp.e2, hp.e3, hp.e4, hp.t4, hp.e5, hp.t5, hp.e10, hp.e11, hp.e12, hp.e13, t12, t13, hN, hM, cE8_at, spForm_mv, spForm_fn, hn1, hn2, hn3, hn4, hn9, hn10, hn11, hn12, hm1, hm7, hm8, hm9, hm10, hm11, hm12, hw1, hw2, hw3, hw4, q1, q2, q3, q4, q5, q6, q7, q8, q9, q10, q11, hNl, hMl, hx, hy, List.length_map, List.append_eq, h])
        all_goals (first | refine fin_ret ?_ | refine fin_normal ?_)
        all_goals simp only [resOf, Try.results9, Try.ntmps9, go_sem, seval, eq_self, reduceCtorEq]
      · rcases hr with ⟨hl1, _⟩ | ⟨_, v', hy, hb'⟩
        · exact absurd hl1 hl0
        simp only [go_sem, seval, eq_self, reduceCtorEq, hp.e2, hp.e3, hp.e4, hp.t4, hp.e5, hp.t5, hp.e10, hp.e11, hp.e12, hp.e13, t12, t13, ek, f0, hx, hy, ga, ge, List.length_map, bne_self_eq_false]
        repeat' ((first | (refine AG_of ?_ ?_ <;> intro h) | (refine AB_of ?_ ?_ <;> intro h) | (refine A_draw_of [] [] (by kernel_rfl) ?_ <;> have h := mark)) <;> simp only [go_sem, seval, eq_self, reduceCtorEq, hp.e2, hp.e3, hp.e4, hp.t4, hp.e5, hp.t5, hp.e10, hp.e11, hp.e12, hp.e13, t12, t13, ek, f0, hx, hy, ga, ge, List.length_map, bne_self_eq_false, h])
        refine A_loop (pairI3 op d a b imm pc off o A E l v v') (fun s => l.length - (numOf (s.env 18)).toNat) ?_ ?_
        · exact ⟨⟨by simp [upd, hp.e2], by simp [upd, hp.e3], by simp [upd, hp.e4], by simp [upd, hp.t4], by simp [upd, hp.e5], by simp [upd, hp.t5], by simp [upd, hp.e10], by simp [upd, hp.e11], by simp [upd, hp.e12], by simp [upd, hp.e13]⟩, by simp [upd, t12, hN], by simp [upd, t13, hM], by simp [upd, hx], by simp [upd, hb], by simp [upd, hy], by simp [upd, hb'], 0, by simp [upd], by omega⟩
        clear hp ek eb t12 t13 hx hy hb hb' hk hkl f0 hge
        clear k s
        intro s hs
        obtain ⟨hp, t12, t13, hx, hb, hy, hb', k, ek, hk⟩ := hs
        rw [hN] at t12
        rw [hM] at t13
        rcases Nat.lt_or_ge k l.length with hlt | hge
        · obtain ⟨r, q⟩ : ∃ i, l[k]? = some i := ⟨l[k], List.getElem?_eq_getElem hlt⟩
          have f0 : decide ((k : Int) < l.length) = true := by simp; omega
          have z0 := Int.natCast_nonneg k
          have z3 : (k : Int) < l.length := by omega
          have n2 : IntKind.i64.wrap ((k : Int) + 1) = (k + 1 : Nat) := by rw [w_i64 (by omega) (by omega)]; omega
          obtain ⟨r0, r1, ron⟩ := hon r (List.mem_of_getElem? q)
          obtain ⟨rn, rfl⟩ : ∃ n : Nat, r = n := ⟨r.toNat, by omega⟩
          have hdo := drop_iv (o := o) (k := rn) (by omega)
          rw [ron] at hdo
          simp only [go_sem, seval, eq_self, reduceCtorEq, hp.e2, hp.e3, hp.e4, hp.t4, hp.e5, hp.t5, hp.e10, hp.e11, hp.e12, hp.e13, t12, t13, ek, f0, z0, z3, n2, q, hx, hb, hy, hb', r0, r1, hdo, hlen, iv, Int.toNat_natCast, Nat.mul_one, Nat.zero_add, List.getElem?_map, List.length_map, bne_self_eq_false]
          repeat' ((first | (refine AG_of ?_ ?_ <;> intro h) | (refine AB_of ?_ ?_ <;> intro h) | (refine A_draw_of [] [] (by kernel_rfl) ?_ <;> have h := mark)) <;> simp only [go_sem, seval, eq_self, reduceCtorEq, hp.e2, hp.e3, hp.e4, hp.t4, hp.e5, hp.t5, hp.e10, hp.e11, hp.e12, hp.e13, t12, t13, ek, f0, z0, z3, n2, q, hx, hb, hy, hb', r0, r1, hdo, hlen, iv, Int.toNat_natCast, Nat.mul_one, Nat.zero_add, List.getElem?_map, List.length_map, bne_self_eq_false, h])
          exact ⟨⟨⟨by simp [upd, hp.e2], by simp [upd, hp.e3], by simp [upd, hp.e4], by simp [upd, hp.t4], by simp [upd, hp.e5], by simp [upd, hp.t5], by simp [upd, hp.e10], by simp [upd, hp.e11], by simp [upd, hp.e12], by simp [upd, hp.e13]⟩, by simp [upd, t12, hN], by simp [upd, t13, hM], by simp [upd, hx], by simp [upd, hb], by simp [upd, hy], by simp [upd, hb'], k + 1, by simp [upd], by omega⟩, by simp [upd, numOf, ek]; omega⟩
        · have f0 : decide ((k : Int) < l.length) = false := by simp; omega
          simp only [go_sem, seval, eq_self, reduceCtorEq, hp.e2, hp.e3, hp.e4, hp.t4, hp.e5, hp.t5, hp.e10, hp.e11, hp.e12, hp.e13, t12, t13, ek, f0, hx, hy]
          repeat' ((first | (refine AG_of ?_ ?_ <;> intro h) | (refine AB_of ?_ ?_ <;> intro h) | (refine A_draw_of [] [] (by kernel_rfl) ?_ <;> have h := mark)) <;> simp only [go_sem, seval, eq_self, reduceCtorEq, hp.e2, hp.e3, hp.e4, hp.t4, hp.e5, hp.t5, hp.e10, hp.e11, hp.e12, hp.e13, t12, t13, ek, f0, hx, hy, h])
          simp only [go_sem, seval, eq_self, reduceCtorEq, hp.e2, hp.e3, hp.e4, hp.t4, hp.e5, hp.t5, hp.e10, hp.e11, hp.e12, hp.e13, t12, t13, hN, hM, cE8_at, spForm_mv, spForm_fn, hn1, hn2, hn3, hn4, hn9, hn10, hn11, hn12, hm1, hm7, hm8, hm9, hm10, hm11, hm12, hw1, hw2, hw3, hw4, q1, q2, q3, q4, q5, q6, q7, q8, q9, q10, q11, hNl, hMl, hx, hy, List.length_map, List.append_eq]
          repeat' ((first | (refine AG_of ?_ ?_ <;> intro h) | (refine AB_of ?_ ?_ <;> intro h) | (refine A_draw_of [] [] (by kernel_rfl) ?_ <;> have h := mark)) <;> simp only [go_sem, seval, eq_self, reduceCtorEq, hp.e2, hp.e3, hp.e4, hp.t4, hp.e5, hp.t5, hp.e10, hp.e11, hp.e12, hp.e13, t12, t13, hN, hM, cE8_at, spForm_mv, spForm_fn, hn1, hn2, hn3, hn4, hn9, hn10, hn11, hn12, hm1, hm7, hm8, hm9, hm10, hm11, hm12, hw1, hw2, hw3, hw4, q1, q2, q3, q4, q5, q6, q7, q8, q9, q10, q11, hNl, hMl, hx, hy, List.length_map, List.append_eq, h])
          all_goals (first | refine fin_ret ?_ | refine fin_normal ?_)
          all_goals simp only [resOf, Try.results9, Try.ntmps9, go_sem, seval, eq_self, reduceCtorEq]
end Go.Proofs.Ytnhpkdkffpagdaa
