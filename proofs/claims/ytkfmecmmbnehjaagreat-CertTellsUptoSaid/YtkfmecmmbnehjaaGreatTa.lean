/-
The reference's With and Split by the plain reckoning. No condition.
-/
import Derived.Test.YtkfmecmmbnehjaaGreatSf
import Derived.Test.YtkfmecmmbnehjaaGreatEe
import Derived.Test.YtkfmecmmbnehjaaGreatOb
namespace Go.Proofs.YtkfmecmmbnehjaaGreat
set_option linter.unusedSimpArgs false
set_option linter.unusedVariables false

def nil9 (sz : Nat) : V → V
  | .s (.slice none 0 0) => .lst true sz []
  | x => x
def tup0 (sz : Nat) : V → V
  | .tup [x, y] => .tup [nil9 sz x, nil9 sz y]
  | r => r
theorem nil9_rc {w : World} {own fresh : Nat → Prop} {sz : Nat} {u : Value} {x : V} (h : RC w own fresh true u x) : RC w own fresh true u (nil9 sz x) := by
  unfold nil9
  split
  · cases h
    exact .lst true true sz [] none 0 [] (Nat.le_refl _) (fun x hx => by cases hx) rfl (fun i u x hu _ => by simp at hu) (fun u hu => by cases hu) (.inl rfl)
  · exact h
theorem impl_tup0 {P : Program} {f : Nat} {sp : Spec} (sz : Nat) (h : Impl P f sp) : Impl P f ⟨sp.mv, fun xs => (sp.fn xs).map (tup0 sz)⟩ := by
  refine ⟨h.1, fun xs r hr vs w J ha => ?_⟩
  obtain ⟨r0, h0, rfl⟩ := Option.map_eq_some_iff.1 hr
  by_cases c : ∃ x y, r0 = .tup [x, y]
  · obtain ⟨x, y, rfl⟩ := c
    refine (h.2 xs _ h0 vs w J ha).mono fun e w' ⟨v, he, hf, hres⟩ => ⟨v, he, hf, ?_⟩
    have hres' : RC w' (fun _ => False) (Fresh w J) true v (.tup [x, y]) := hres
    show RC w' (fun _ => False) (Fresh w J) true v (.tup [nil9 sz x, nil9 sz y])
    cases hres' with
    | tup _ us l hl he =>
      refine .tup _ us _ hl fun i u z hu hz => ?_
      match i, hz with
      | 0, hz =>
        simp only [List.getElem?_cons_zero, Option.some.injEq] at hz
        subst hz
        exact nil9_rc (he 0 u x hu rfl)
      | 1, hz =>
        simp only [List.getElem?_cons_succ, List.getElem?_cons_zero, Option.some.injEq] at hz
        subst hz
        exact nil9_rc (he 1 u y hu rfl)
      | i + 2, hz => simp at hz
  · have e : tup0 sz r0 = r0 := by
      unfold tup0
      split
      · rename_i x y; exact absurd ⟨x, y, rfl⟩ c
      · rfl
    rw [e]
    exact h.2 xs r0 h0 vs w J ha
def spREL : Spec := ⟨spREmit.mv, fun xs => (spREmit.fn xs).map (tup0 9)⟩
theorem spREL_mv : spREL.mv = [] := rfl
theorem nil9_lstC (l : List Cell) : nil9 9 (lstC l) = .lst true 9 (l.map Cell.v) := by
  cases l <;> rfl
theorem spREL_v {o : List Int} (ho : o.length = 16) (op d a b imm pc off : Int) : spREL.fn [.agg [.s (.int .i64 op), .s (.int .i64 d), .s (.int .i64 a), .s (.int .i64 b), .s (.int .i64 imm)], .agg (o.map iv), .s (.int .i64 pc), .s (.int .i64 off)] =
    some (.tup [.lst true 9 ((aCells ⟨op, d, a, b, imm⟩ o pc off).map Cell.v), .lst true 9 ((eCells ⟨op, d, a, b, imm⟩ o pc off).map Cell.v)]) := by
  simp only [spREL, spREmit_v ho, Option.map_some, tup0, nil9_lstC]
def cT1 : Orc := upd (upd (upd cW1 36 (some spCut1)) 37 (some spREL)) 35 (some spClosed)
theorem cT1_ok : ∀ g sp, cT1 g = some sp → Impl Tryz.prog g sp := orc_upd (orc_upd (orc_upd cW1_ok rcut1_impl) (impl_tup0 9 remit_impl)) rclosed_impl
theorem cT1_at : cT1 36 = some spCut1 ∧ cT1 37 = some spREL ∧ cT1 35 = some spClosed := ⟨rfl, rfl, rfl⟩

structure rwE (p : Prg) (o : List Int) (N : Nat) (s : S) : Prop where
  e2 : s.env 2 = .ptr 2 1 0
  t2 : s.st 2 = ⟨1, .box (prgB p)⟩
  e3 : s.env 3 = .ptr 3 1 0
  t3 : s.st 3 = ⟨1, .box (o.map iv)⟩
  e4 : s.env 4 = .ptr 4 1 0
  t4 : s.st 4 = ⟨1, .box (.s (.slice none 0 0) :: z16)⟩
  e6 : s.env 6 = .ptr 6 1 0
  t6 : s.st 6 = ⟨1, .box (.sw 18 1 N :: o.map iv)⟩
theorem rwE.keep {p : Prg} {o : List Int} {N : Nat} {s s' : S} (h : rwE p o N s) (he : s'.env = s.env) (hs : ∀ b, b ≠ 18 → b ≠ 67 → b ≠ 76 → s'.st b = s.st b) : rwE p o N s' :=
  ⟨by rw [he]; exact h.e2, by rw [hs 2 (by omega) (by omega) (by omega)]; exact h.t2, by rw [he]; exact h.e3, by rw [hs 3 (by omega) (by omega) (by omega)]; exact h.t3, by rw [he]; exact h.e4, by rw [hs 4 (by omega) (by omega) (by omega)]; exact h.t4,
    by rw [he]; exact h.e6, by rw [hs 6 (by omega) (by omega) (by omega)]; exact h.t6⟩
def rwI (p : Prg) (o : List Int) (s : S) : Prop := rwE p o (cutL p).length s ∧
  ∃ k : Nat, s.env 7 = .s (.int .i64 k) ∧ k ≤ (cutL p).length ∧ ((k = 0 ∧ s.st 18 = ⟨1, .row 6 24 (wD p o 0)⟩) ∨ s.st 18 = ⟨1, .rowV 6 24 (wD p o k)⟩)
def rwJ (p : Prg) (o : List Int) (k : Nat) (b : Blk4) (F n : Nat) (s : S) : Prop := rwE p o (cutL p).length s ∧ s.env 7 = .s (.int .i64 k) ∧ s.env 8 = .rp 18 1 6 k 0 ∧
  ∃ j : Nat, s.env 9 = .s (.int .i64 (F + j : Nat)) ∧ j ≤ n ∧ ((j = 0 ∧ s.st 18 = ⟨1, .rowV 6 24 ((wD p o k).set k (blkW b (.s (.slice none 0 0)) (.s (.slice none 0 0))))⟩) ∨
    ∃ v w A E, s.st 18 = ⟨1, .rowV 6 24 ((wD p o k).set k (blkW b (.sw 67 v A.length) (.sw 76 w E.length)))⟩ ∧ s.st 67 = ⟨v, .row 9 51 A⟩ ∧ s.st 76 = ⟨w, .row 9 51 E⟩ ∧
      A = (iCells aCells p.code o F j).map Cell.v ∧ E = (iCells eCells p.code o F j).map Cell.v)
set_option maxRecDepth 8000 in
set_option maxHeartbeats 16000000 in
theorem rspw_impl : Impl Tryz.prog 18 spSpW := by
  refine impl_walk2 mixed cT1_ok eqT_ok Tryz.func18 rfl Tryz.ntmps18 (by kernel_rfl) ?_
  intro xs r h
  unfold spSpW at h
  simp only at h
  (try split at h) <;> try (cases (show none = some r from h); done)
  rename_i x y
  obtain ⟨p, hp, h3⟩ := Option.bind_eq_some_iff.1 h
  obtain ⟨o, ho, h4⟩ := Option.bind_eq_some_iff.1 h3
  clear h h3
  cases h4
  obtain ⟨rfl, hlen⟩ := ownOf_eq ho
  refine ⟨_, (SeesL.cons (prgOf_sees hp) .same).args, by simp [ownV], ?_⟩
  have hcl := closed_v hlen p
  have hto := take_iv hlen
  simp only [Prg.v] at hcl
  unfold swV
  cases hc : closedB p o
  · rw [hc] at hcl
    rw [if_neg (by simp)]
    simp only [go_sem, seval, eq_self, reduceCtorEq, Prg.v, ownV, cT1_at, spClosed_mv, hcl, hto, hlen, List.length_map]
    repeat' ((first | (refine AG_of ?_ ?_ <;> intro h) | (refine AB_of ?_ ?_ <;> intro h) | (refine A_draw_of [] [] (by kernel_rfl) ?_ <;> have h := mark)) <;> simp only [go_sem, seval, eq_self, reduceCtorEq, Prg.v, ownV, cT1_at, spClosed_mv, hcl, hto, hlen, List.length_map, h])
    all_goals (first | refine fin_ret ?_ | refine fin_normal ?_)
    all_goals simp only [resOf, Tryz.results18, Tryz.ntmps18, go_sem, seval, eq_self, reduceCtorEq]
    all_goals rfl
  rw [hc] at hcl
  rw [if_pos rfl]
  have hr := closed_right hc
  have hrl := right_len hr
  have hC := spCut1_v hr
  simp only [Prg.v] at hC
  simp only [go_sem, seval, eq_self, reduceCtorEq, Prg.v, ownV, cT1_at, spClosed_mv, hcl, hto, hlen, List.length_map]
  repeat' ((first | (refine AG_of ?_ ?_ <;> intro h) | (refine AB_of ?_ ?_ <;> intro h)) <;> simp only [go_sem, seval, eq_self, reduceCtorEq, Prg.v, ownV, cT1_at, spClosed_mv, hcl, hto, hlen, List.length_map, h])
  refine A_draw_of [18, 6] [18, 6, 1006018] (by kernel_rfl) ?_
  simp only [go_sem, seval, eq_self, reduceCtorEq, Prg.v, ownV, cT1_at, spCut1_mv, hC, hto, hlen, List.length_map]
  repeat' ((first | (refine AG_of ?_ ?_ <;> intro h) | (refine AB_of ?_ ?_ <;> intro h)) <;> simp only [go_sem, seval, eq_self, reduceCtorEq, Prg.v, ownV, cT1_at, spCut1_mv, hC, hto, hlen, List.length_map, h])
  refine A_loopG (rwI p o) (fun s => (cutL p).length - (numOf (s.env 7)).toNat) ?_ ?_
  · exact ⟨⟨by simp [upd], by simp [upd, prgB, V.unfr, V.unfrL, V.cells], by simp [upd], by simp [upd, V.cells], by simp [upd], by simp [upd, z16, List.replicate], by simp [upd], by simp [upd, List.length_map]⟩, 0, by simp [upd], by omega, .inl ⟨rfl, by simp [upd, wD_zero]⟩⟩
  intro s hs
  obtain ⟨hE, k, ek, hk, h17⟩ := hs
  obtain ⟨s1, hg1, hE1, ek1, h171⟩ : ∃ s1, Gh s s1 ∧ rwE p o (cutL p).length s1 ∧ s1.env 7 = .s (.int .i64 k) ∧ s1.st 18 = ⟨1, .rowV 6 24 (wD p o k)⟩ := by
    rcases h17 with ⟨rfl, h17⟩ | h17
    · exact ⟨⟨s.env, upd s.st 18 ⟨1, .rowV 6 24 (wD p o 0)⟩⟩, Gh.open h17, hE.keep rfl (fun b hb _ _ => by simp only [upd]; rw [if_neg hb]), ek, by simp [upd]⟩
    · exact ⟨s, Gh.refl s, hE, ek, h17⟩
  have hDl := wD_len (o := o) hk
  have hNl : (cutL p).length ≤ 2000 := by
    have h1 := leadL_len p
    have h2 : (cutL p).length = (leadL p).length := by simp [cutL, cutF]
    omega
  rcases Nat.lt_or_ge k (cutL p).length with hlt | hge
  · refine ⟨s1, hg1, ?_⟩
    have hlt2 : (k : Int) < ((cutL p).length : Int) := by omega
    obtain ⟨b, F, n, qb, hF, hT, hn, hTc⟩ := blk_span hlt
    have hget := wD_get (o := o) qb
    have hself : (wD p o k).set k (blkW b (.s (.slice none 0 0)) (.s (.slice none 0 0))) = wD p o k := set_self hget
    have hget2 : ∀ X, ((wD p o k).set k X)[k]? = some X := fun X => set_get (by omega) X
    have hwn : sbAt p o b = ⟨b.from_, b.to_, b.next, b.taken, iCells aCells p.code o F n, iCells eCells p.code o F n⟩ := by
      unfold sbAt
      rw [hF, hT, show ((F : Nat) : Int).toNat = F by omega, show (((F + n : Nat) : Int) - ((F : Nat) : Int)).toNat = n by omega]
    have hnext := wD_set (o := o) qb
    have hsw := wD_sw p o k
    have hsix := wD_six p o k
    have g0 : decide ((k : Int) < ((cutL p).length : Int)) = true := by simp; omega
    have z0 := Int.natCast_nonneg k
    have n2 : IntKind.i64.wrap ((k : Int) + 1) = (k + 1 : Nat) := by rw [w_i64 (by omega) (by omega)]; omega
    obtain ⟨e2, t2, e3, t3, e4, t4, e6, t6⟩ := hE1
    obtain ⟨D, hD⟩ : ∃ D, wD p o k = D := ⟨_, rfl⟩
    rw [hD] at hDl hget hself hget2 hnext hsw hsix h171
    simp only [go_sem, seval, eq_self, reduceCtorEq, e2, t2, e3, t3, e4, t4, e6, t6, ek1, h171, g0, z0, hDl, hlt2, hget, prgB, Blk4.v, hF, hT, Int.toNat_natCast, List.length_map]
    repeat' ((first | (refine AG_of ?_ ?_ <;> intro h) | (refine AB_of ?_ ?_ <;> intro h) | (refine A_draw_of [] [] (by kernel_rfl) ?_ <;> have h := mark)) <;> simp only [go_sem, seval, eq_self, reduceCtorEq, e2, t2, e3, t3, e4, t4, e6, t6, ek1, h171, g0, z0, hDl, hlt2, hget, prgB, Blk4.v, hF, hT, Int.toNat_natCast, List.length_map, h])
    refine A_loopG (rwJ p o k b F n) (fun s => n - ((numOf (s.env 9)).toNat - F)) ?_ ?_
    · exact ⟨⟨by simp [upd, e2], by simp [upd, t2, prgB], by simp [upd, e3], by simp [upd, t3], by simp [upd, e4], by simp [upd, t4], by simp [upd, e6], by simp [upd, t6]⟩, by simp [upd, ek1], by simp [upd], 0, by simp [upd], by omega, .inl ⟨rfl, by simp only [hD, hself]; simp [upd, h171]⟩⟩
    clear e2 t2 e3 t3 e4 t4 e6 t6 h171 ek1 hg1 h17 hE
    have ekO := ek
    clear ek
    intro s2 hs
    obtain ⟨hE, ek, e8, j, ej, hj, hcase⟩ := hs
    rw [hD] at hcase
    have n3 : IntKind.i64.wrap (((F + j : Nat) : Int) + 1) = ((F + (j + 1) : Nat) : Int) := by rw [w_i64 (by omega) (by omega)]; omega
    rcases Nat.lt_or_ge j n with hjn | hjn
    · refine ⟨s2, Gh.refl s2, ?_⟩
      obtain ⟨e2, t2, e3, t3, e4, t4, e6, t6⟩ := hE
      obtain ⟨⟨op, d, a, b2, imm⟩, q⟩ : ∃ i, p.code[F + j]? = some i := ⟨p.code[F + j]'(by omega), List.getElem?_eq_getElem (by omega)⟩
      have g1 : decide (((F + j : Nat) : Int) < ((F + n : Nat) : Int)) = true := by simp; omega
      have zj := Int.natCast_nonneg (F + j)
      have wFj : IntKind.i64.wrap (((F + j : Nat) : Int) - (F : Int)) = (j : Int) := by rw [w_i64 (by omega) (by omega)]; omega
      have hA := spREL_v hlen op d a b2 imm ((F + j : Nat) : Int) (j : Int)
      obtain ⟨la, hla⟩ : ∃ l, aCells ⟨op, d, a, b2, imm⟩ o ((F + j : Nat) : Int) (j : Int) = l := ⟨_, rfl⟩
      obtain ⟨le, hle⟩ : ∃ l, eCells ⟨op, d, a, b2, imm⟩ o ((F + j : Nat) : Int) (j : Int) = l := ⟨_, rfl⟩
      have lla : la.length ≤ 3 := by rw [← hla]; exact aCells_len _ _ _ _
      have lle : le.length ≤ 3 := by rw [← hle]; exact eCells_len _ _ _ _
      have sA := iCells_v aCells o q hla
      have sE := iCells_v eCells o q hle
      have fA := iCells_len aCells_len p.code o F j
      have fE := iCells_len eCells_len p.code o F j
      rw [hla, hle] at hA
      obtain ⟨X, hX⟩ : ∃ X : Nat, F + j = X := ⟨_, rfl⟩
      have q0 := q
      rw [hX] at q g1 zj wFj hA ej n3
      rcases hcase with ⟨hj0, h17⟩ | ⟨v, w, A, E, h17, t62, t80, hAe, hEe⟩
      · have iz1 : iCells aCells p.code o F j = [] := by rw [hj0]; rfl
        have iz2 : iCells eCells p.code o F j = [] := by rw [hj0]; rfl
        rw [iz1, List.map_nil, List.nil_append] at sA
        rw [iz2, List.map_nil, List.nil_append] at sE
        have f1 : la.length * 72 ≤ 140737488355328 := by omega
        have f2 : le.length * 72 ≤ 140737488355328 := by omega
        simp only [go_sem, seval, eq_self, reduceCtorEq, e2, t2, e3, t3, e4, t4, e6, t6, ek, e8, ej, h17, cT1_at, spREL_mv, hA, wFj, q, g1, zj, f1, f2, n3, hget2, hDl, hlt2, z0, hto, hlen, blkW, hF, hT, prgB, Ins.v, List.set_set, Int.toNat_natCast, List.getElem?_map, List.length_set, List.length_map]
        repeat' ((first | (refine AG_of ?_ ?_ <;> intro h) | (refine AB_of ?_ ?_ <;> intro h) | (refine A_draw_of [] [] (by kernel_rfl) ?_ <;> have h := mark)) <;> simp only [go_sem, seval, eq_self, reduceCtorEq, e2, t2, e3, t3, e4, t4, e6, t6, ek, e8, ej, h17, cT1_at, spREL_mv, hA, wFj, q, g1, zj, f1, f2, n3, hget2, hDl, hlt2, z0, hto, hlen, blkW, hF, hT, prgB, Ins.v, List.set_set, Int.toNat_natCast, List.getElem?_map, List.length_set, List.length_map, h])
        refine ⟨⟨⟨by simp [upd, e2], by simp [upd, t2, prgB], by simp [upd, e3], by simp [upd, t3], by simp [upd, e4], by simp [upd, t4], by simp [upd, e6], by simp [upd, t6]⟩, by simp [upd, ek], by simp [upd, e8], j + 1, by simp [upd], by omega, .inr ⟨(s2.st 67).ver + 1, (s2.st 76).ver + 1, la.map Cell.v, le.map Cell.v, ?_, by simp [upd], by simp [upd], sA, sE⟩⟩, by simp [upd, numOf, ej]; omega⟩
        simp [upd, hD, blkW, hF, hT, List.length_map]
      · have hAl : A.length = (iCells aCells p.code o F j).length := by rw [hAe, List.length_map]
        have hEl : E.length = (iCells eCells p.code o F j).length := by rw [hEe, List.length_map]
        have f1 : (A.length + la.length) * 72 ≤ 140737488355328 := by omega
        have f2 : (E.length + le.length) * 72 ≤ 140737488355328 := by omega
        rw [← hAe] at sA
        rw [← hEe] at sE
        simp only [go_sem, seval, eq_self, reduceCtorEq, e2, t2, e3, t3, e4, t4, e6, t6, ek, e8, ej, h17, t62, t80, cT1_at, spREL_mv, hA, wFj, q, g1, zj, f1, f2, n3, hget2, hDl, hlt2, z0, hto, hlen, blkW, hF, hT, prgB, Ins.v, List.set_set, Int.toNat_natCast, List.getElem?_map, List.length_set, List.length_map]
        repeat' ((first | (refine AG_of ?_ ?_ <;> intro h) | (refine AB_of ?_ ?_ <;> intro h) | (refine A_draw_of [] [] (by kernel_rfl) ?_ <;> have h := mark)) <;> simp only [go_sem, seval, eq_self, reduceCtorEq, e2, t2, e3, t3, e4, t4, e6, t6, ek, e8, ej, h17, t62, t80, cT1_at, spREL_mv, hA, wFj, q, g1, zj, f1, f2, n3, hget2, hDl, hlt2, z0, hto, hlen, blkW, hF, hT, prgB, Ins.v, List.set_set, Int.toNat_natCast, List.getElem?_map, List.length_set, List.length_map, h])
        refine ⟨⟨⟨by simp [upd, e2], by simp [upd, t2, prgB], by simp [upd, e3], by simp [upd, t3], by simp [upd, e4], by simp [upd, t4], by simp [upd, e6], by simp [upd, t6]⟩, by simp [upd, ek], by simp [upd, e8], j + 1, by simp [upd], by omega, .inr ⟨v + 1, w + 1, A ++ la.map Cell.v, E ++ le.map Cell.v, ?_, by simp [upd], by simp [upd], sA, sE⟩⟩, by simp [upd, numOf, ej]; omega⟩
        simp [upd, hD, blkW, hF, hT, List.length_map]
    · have hjn2 : j = n := by omega
      rcases hcase with ⟨hj0, h17⟩ | ⟨v, w, A, E, h17, t62, t80, hAe, hEe⟩
      · omega
      obtain ⟨st', hg, k17, kst⟩ := Gh.seal (env := s2.env) t62 t80 (by omega) (by omega) (by omega) h17 hsw hsix
      refine ⟨⟨s2.env, st'⟩, hg, ?_⟩
      obtain ⟨e2, t2, e3, t3, e4, t4, e6, t6⟩ := hE.keep (s' := ⟨s2.env, st'⟩) rfl fun b h1 h2 h3 => kst b h2 h3 h1
      simp only at e2 t2 e3 t3 e4 t4 e6 t6
      have g1 : decide (((F + j : Nat) : Int) < ((F + n : Nat) : Int)) = false := by simp; omega
      have k17b := k17
      have kw : D.set k (blkW b (.lst true 9 A) (.lst true 9 E)) = wD p o (k + 1) := by
        rw [← hnext, hwn, hAe, hEe, hjn2]; rfl
      rw [kw] at k17
      have hgk : (wD p o (k + 1))[k]? = some (blkW b (.lst true 9 A) (.lst true 9 E)) := by rw [← kw]; exact hget2 _
      simp only [go_sem, seval, eq_self, reduceCtorEq, e2, t2, e3, t3, e4, t4, e6, t6, ek, e8, ej, k17, hgk, g1, n2, blkW, hT]
      repeat' ((first | (refine AG_of ?_ ?_ <;> intro h) | (refine AB_of ?_ ?_ <;> intro h) | (refine A_draw_of [] [] (by kernel_rfl) ?_ <;> have h := mark)) <;> simp only [go_sem, seval, eq_self, reduceCtorEq, e2, t2, e3, t3, e4, t4, e6, t6, ek, e8, ej, k17, hgk, g1, n2, blkW, hT, h])
      exact ⟨⟨⟨by simp [upd, e2], by simp [upd, t2], by simp [upd, e3], by simp [upd, t3], by simp [upd, e4], by simp [upd, t4], by simp [upd, e6], by simp [upd, t6]⟩, k + 1, by simp [upd], by omega, .inr k17⟩, by simp [upd, numOf, ekO]; omega⟩
  · have hkN : k = (cutL p).length := by omega
    rw [hkN, wD_full] at h171
    have hgc := Gh.close (env := s1.env) h171 (w_clo _)
    rw [w_unfr] at hgc
    refine ⟨_, hg1.trans hgc, ?_⟩
    obtain ⟨e2, t2, e3, t3, e4, t4, e6, t6⟩ := hE1
    have g0 : decide ((k : Int) < ((cutL p).length : Int)) = false := by simp; omega
    have hsl := splitL_len p o
    simp only [go_sem, seval, eq_self, reduceCtorEq, e2, t2, e3, t3, e4, t4, e6, t6, ek1, g0, hto, hlen, z16, List.replicate, List.length_map]
    repeat' ((first | (refine AG_of ?_ ?_ <;> intro h) | (refine AB_of ?_ ?_ <;> intro h) | (refine A_draw_of [] [] (by kernel_rfl) ?_ <;> have h := mark)) <;> simp only [go_sem, seval, eq_self, reduceCtorEq, e2, t2, e3, t3, e4, t4, e6, t6, ek1, g0, hto, hlen, z16, List.replicate, List.length_map, h])
    all_goals (first | refine fin_ret ?_ | refine fin_normal ?_)
    all_goals simp only [resOf, Tryz.results18, Tryz.ntmps18, go_sem, seval, eq_self, reduceCtorEq, e4, hsl, hto, hlen, z16, List.replicate, List.length_map]
    all_goals rfl
def cT2 : Orc := upd (upd cT1 18 (some spSpW)) 38 (some spOf)
theorem cT2_ok : ∀ g sp, cT2 g = some sp → Impl Tryz.prog g sp := orc_upd (orc_upd cT1_ok rspw_impl) rowner_impl
theorem cT2_at : cT2 18 = some spSpW ∧ cT2 38 = some spOf := ⟨rfl, rfl⟩
set_option maxHeartbeats 2000000 in
theorem rspo_impl : Impl Tryz.prog 20 spSpO := by
  refine impl_walk2 mixed cT2_ok eqT_ok Tryz.func20 rfl Tryz.ntmps20 (by kernel_rfl) ?_
  intro xs r h
  unfold spSpO at h
  simp only at h
  (try split at h) <;> try (cases (show none = some r from h); done)
  rename_i x
  obtain ⟨p, hp, h3⟩ := Option.bind_eq_some_iff.1 h
  clear h
  split at h3
  case isFalse => cases h3
  rename_i hl
  cases h3
  refine ⟨_, (SeesL.cons (prgOf_sees hp) .nil).args, by simp, ?_⟩
  have hof : spOf.fn [p.v] = _ := of_v hl
  have hw := spSpW_v (of_len p) p
  have hol := of_len p
  have hto := take_iv hol
  simp only [Prg.v] at hof hw
  unfold swV at hw ⊢
  cases hc : closedB p (ofO p)
  · rw [hc, if_neg (by simp)] at hw
    rw [if_neg (by simp)]
    simp only [noS] at hw ⊢
    simp only [go_sem, seval, eq_self, reduceCtorEq, Prg.v]
    repeat' ((first | (refine AG_of ?_ ?_ <;> intro h) | (refine AB_of ?_ ?_ <;> intro h)) <;> simp only [go_sem, seval, eq_self, reduceCtorEq, Prg.v, h])
    refine A_draw_of [2] [] (by kernel_rfl) ?_
    simp only [go_sem, seval, eq_self, reduceCtorEq, Prg.v, cT2_at, spOf_mv, spSpW_mv, hof, hw, hol, hto, z16, List.replicate, List.length_map]
    repeat' ((first | (refine AG_of ?_ ?_ <;> intro h) | (refine AB_of ?_ ?_ <;> intro h) | (refine A_draw_of [] [] (by kernel_rfl) ?_ <;> have h := mark)) <;> simp only [go_sem, seval, eq_self, reduceCtorEq, Prg.v, cT2_at, spOf_mv, spSpW_mv, hof, hw, hol, hto, z16, List.replicate, List.length_map, h])
    all_goals (first | refine fin_ret ?_ | refine fin_normal ?_)
    all_goals simp only [resOf, Tryz.results20, Tryz.ntmps20, go_sem, seval, eq_self, reduceCtorEq, hol, hto, z16, List.replicate, List.length_map]
    all_goals rfl
  · rw [hc, if_pos rfl] at hw
    rw [if_pos rfl]
    simp only [go_sem, seval, eq_self, reduceCtorEq, Prg.v]
    repeat' ((first | (refine AG_of ?_ ?_ <;> intro h) | (refine AB_of ?_ ?_ <;> intro h)) <;> simp only [go_sem, seval, eq_self, reduceCtorEq, Prg.v, h])
    refine A_draw_of [2] [] (by kernel_rfl) ?_
    simp only [go_sem, seval, eq_self, reduceCtorEq, Prg.v, cT2_at, spOf_mv, spSpW_mv, hof, hw, hol, hto, z16, List.replicate, List.length_map]
    repeat' ((first | (refine AG_of ?_ ?_ <;> intro h) | (refine AB_of ?_ ?_ <;> intro h) | (refine A_draw_of [] [] (by kernel_rfl) ?_ <;> have h := mark)) <;> simp only [go_sem, seval, eq_self, reduceCtorEq, Prg.v, cT2_at, spOf_mv, spSpW_mv, hof, hw, hol, hto, z16, List.replicate, List.length_map, h])
    all_goals (first | refine fin_ret ?_ | refine fin_normal ?_)
    all_goals simp only [resOf, Tryz.results20, Tryz.ntmps20, go_sem, seval, eq_self, reduceCtorEq, hol, hto, z16, List.replicate, List.length_map]
    all_goals rfl

end Go.Proofs.YtkfmecmmbnehjaaGreat
