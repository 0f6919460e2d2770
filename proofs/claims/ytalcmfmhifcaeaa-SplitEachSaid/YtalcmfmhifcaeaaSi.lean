/-
SplitEach by the plain reckoning. No condition.
-/
import Derived.Test.YtalcmfmhifcaeaaSg
namespace Go.Proofs.Ytalcmfmhifcaeaa
set_option linter.unusedSimpArgs false
set_option linter.unusedVariables false

def spSEach : Spec := ⟨[], fun xs => match xs with
  | [x] => (prgOf x).bind fun _ => some (.s (.bool true))
  | _ => none⟩
theorem lst_len {p : Prg} {o : List Int} {k : Nat} {b : Blk4} (h : (cutL p)[k]? = some b) : (sbAt p o b).a.length ≤ 3 * p.code.length ∧ (sbAt p o b).e.length ≤ 3 * p.code.length := by
  obtain ⟨s1, s2⟩ := sbAt_cells (o := o) h
  obtain ⟨_, _, h3, h4⟩ := blk_bd h
  have l1 := iCells_len aCells_len p.code o (bdAt p k) (bdAt p (k + 1) - bdAt p k)
  have l2 := iCells_len eCells_len p.code o (bdAt p k) (bdAt p (k + 1) - bdAt p k)
  rw [s1, s2]
  omega
structure seE (p : Prg) (o : List Int) (s : S) : Prop where
  e4 : s.env 4 = .ptr 4 1 0
  t4 : s.st 4 = ⟨1, .box (.lst true 6 ((splitL p o).map SB.v) :: o.map iv)⟩
  e6 : s.env 6 = .sw 34 1 p.code.length
def seI (p : Prg) (o : List Int) (s : S) : Prop := seE p o s ∧ ∃ k : Nat, s.env 7 = .s (.int .i64 k) ∧ k ≤ (cutL p).length ∧ s.st 34 = ⟨1, .row 1 3 (hadL p.code.length (allC p o k))⟩
def seJ (p : Prg) (o : List Int) (k : Nat) (b : Blk4) (s : S) : Prop := seE p o s ∧ s.env 7 = .s (.int .i64 k) ∧ ∃ v w j : Nat, s.env 10 = .s (.int .i64 j) ∧ j ≤ ((sbAt p o b).a ++ (sbAt p o b).e).length ∧
  s.env 8 = .ptr 8 v 0 ∧ s.st 8 = ⟨v, .box [.s (.int .i64 b.from_), .s (.int .i64 b.to_), .s (.int .i64 b.next), .s (.int .i64 b.taken), .lst false 9 ((sbAt p o b).a.map Cell.v), .lst false 9 ((sbAt p o b).e.map Cell.v)]⟩ ∧
  s.env 9 = .sw 49 w ((sbAt p o b).a ++ (sbAt p o b).e).length ∧ s.st 49 = ⟨w, .row 9 47 (((sbAt p o b).a ++ (sbAt p o b).e).map Cell.v)⟩ ∧
  s.st 34 = ⟨1, .row 1 3 (hadL p.code.length (allC p o k ++ ((sbAt p o b).a ++ (sbAt p o b).e).take j))⟩
def seK (p : Prg) (o : List Int) (s : S) : Prop := s.env 6 = .sw 34 1 p.code.length ∧ s.st 34 = ⟨1, .row 1 3 (hadL p.code.length (allC p o (cutL p).length))⟩ ∧ ∃ k : Nat, s.env 11 = .s (.int .i64 k) ∧ k ≤ p.code.length
theorem row_app (A E : List Cell) : A.map Cell.v ++ E.map Cell.v = (A ++ E).map Cell.v := by simp
set_option maxRecDepth 8000 in
set_option maxHeartbeats 16000000 in
theorem seach_impl : Impl Try.prog 4 spSEach := by
  refine impl_walk2 mixed cSp2_ok eqT_ok Try.func4 rfl Try.ntmps4 (by kernel_rfl) ?_
  intro xs r h
  unfold spSEach at h
  simp only at h
  (try split at h) <;> try (cases (show none = some r from h); done)
  rename_i x
  obtain ⟨p, hp, h3⟩ := Option.bind_eq_some_iff.1 h
  clear h
  cases h3
  refine ⟨_, (SeesL.cons (prgOf_sees hp) .nil).args, by simp, ?_⟩
  have hF := few_v p
  have hR := rightP_v p
  simp only [Prg.v] at hF hR
  cases c1 : fewB p
  · rw [c1] at hF
    simp only [go_sem, seval, eq_self, reduceCtorEq, Prg.v, cSp2_at, spTrue_mv, spTrue_fn, spFew_mv, hF]
    repeat' ((first | (refine AG_of ?_ ?_ <;> intro h) | (refine AB_of ?_ ?_ <;> intro h) | (refine A_draw_of [] [] (by kernel_rfl) ?_ <;> have h := mark)) <;> simp only [go_sem, seval, eq_self, reduceCtorEq, Prg.v, cSp2_at, spTrue_mv, spTrue_fn, spFew_mv, hF, h])
    all_goals (first | refine fin_ret ?_ | refine fin_normal ?_)
    all_goals simp only [resOf, Try.results4, Try.ntmps4, go_sem, seval, eq_self, reduceCtorEq]
  rw [c1] at hF
  cases c2 : rightP p
  · rw [c2] at hR
    simp only [go_sem, seval, eq_self, reduceCtorEq, Prg.v, cSp2_at, spTrue_mv, spTrue_fn, spFew_mv, hF, spRightP_mv, hR]
    repeat' ((first | (refine AG_of ?_ ?_ <;> intro h) | (refine AB_of ?_ ?_ <;> intro h) | (refine A_draw_of [] [] (by kernel_rfl) ?_ <;> have h := mark)) <;> simp only [go_sem, seval, eq_self, reduceCtorEq, Prg.v, cSp2_at, spTrue_mv, spTrue_fn, spFew_mv, hF, spRightP_mv, hR, h])
    all_goals (first | refine fin_ret ?_ | refine fin_normal ?_)
    all_goals simp only [resOf, Try.results4, Try.ntmps4, go_sem, seval, eq_self, reduceCtorEq]
  rw [c2] at hR
  have hrl := right_len c2
  have hS := spSpO_v (p := p) (by omega)
  rw [swV_ok (of_closed c2)] at hS
  have hol := of_len p
  simp only [Prg.v] at hS
  obtain ⟨o, hoe⟩ : ∃ o, ofO p = o := ⟨_, rfl⟩
  rw [hoe] at hS hol
  have hto := take_iv hol
  obtain ⟨hp1, hp2⟩ := cutL_pos c2
  have hl1 := splitL_len p o
  have zN := Int.natCast_nonneg p.code.length
  have fN : (p.code.length : Int) * 8 ≤ 140737488355328 := by omega
  have fM : (p.code.length : Int) ≤ 1000000 := by omega
  simp only [go_sem, seval, eq_self, reduceCtorEq, Prg.v, cSp2_at, spTrue_mv, spTrue_fn, spFew_mv, hF, spRightP_mv, hR, spSpO_mv, hS, hol, hto, zN, fN, fM, z16, List.replicate, Int.toNat_natCast, List.length_map]
  repeat' ((first | (refine AG_of ?_ ?_ <;> intro h) | (refine AB_of ?_ ?_ <;> intro h) | (refine A_draw_of [] [] (by kernel_rfl) ?_ <;> have h := mark)) <;> simp only [go_sem, seval, eq_self, reduceCtorEq, Prg.v, cSp2_at, spTrue_mv, spTrue_fn, spFew_mv, hF, spRightP_mv, hR, spSpO_mv, hS, hol, hto, zN, fN, fM, z16, List.replicate, Int.toNat_natCast, List.length_map, h])
  refine A_loop (seI p o) (fun s => (cutL p).length - (numOf (s.env 7)).toNat) ?_ ?_
  · exact ⟨⟨by simp [upd], by simp [upd], by simp [upd]⟩, 0, by simp [upd], by omega, by simp [upd, allC, hadL_nil]⟩
  intro s hs
  obtain ⟨⟨e4, t4, e6⟩, k, ek, hk, t34⟩ := hs
  have n2 : IntKind.i64.wrap ((k : Int) + 1) = (k + 1 : Nat) := by rw [w_i64 (by omega) (by omega)]; omega
  rcases Nat.lt_or_ge k (cutL p).length with hlt | hge
  · have g0 : decide ((k : Int) < ((cutL p).length : Int)) = true := by simp; omega
    have z0 := Int.natCast_nonneg k
    have qb : (cutL p)[k]? = some (cutL p)[k] := List.getElem?_eq_getElem hlt
    obtain ⟨b, hb⟩ : ∃ b, (cutL p)[k] = b := ⟨_, rfl⟩
    rw [hb] at qb
    have q1 := splitL_at qb o
    obtain ⟨ll1, ll2⟩ := lst_len (o := o) qb
    have hsA := scal_cell (sbAt p o b).a
    have hsE := scal_cell (sbAt p o b).e
    have f1 : (sbAt p o b).a.length * 72 ≤ 140737488355328 := by omega
    have f2 : ((sbAt p o b).a ++ (sbAt p o b).e).length * 72 ≤ 140737488355328 := by rw [List.length_append]; omega
    have hla : ((sbAt p o b).a ++ (sbAt p o b).e).length = (sbAt p o b).a.length + (sbAt p o b).e.length := List.length_append
    have hrow := row_app (sbAt p o b).a (sbAt p o b).e
    have hcs := allC_succ (o := o) qb
    have hbd := blk_bd qb
    have hck := fun {c : Cell} (hc : c ∈ (sbAt p o b).a ++ (sbAt p o b).e) => cell_ok (o := o) qb hc
    have hup := fun {j : Nat} (hj : 0 < j) (hne : j ≠ (sbAt p o b).a.length) {c d : Cell} hc hd => cell_up (o := o) qb hj hne (c := c) (d := d) hc hd
    have hcnt := fun m : Nat => cnt_all c2 o m (k + 1) (by omega)
    simp only [go_sem, seval, eq_self, reduceCtorEq, e4, t4, e6, ek, g0, z0, q1, sbAt_v, hl1, Int.toNat_natCast, List.getElem?_map, List.length_map]
    repeat' ((first | (refine AG_of ?_ ?_ <;> intro h) | (refine AB_of ?_ ?_ <;> intro h)) <;> simp only [go_sem, seval, eq_self, reduceCtorEq, e4, t4, e6, ek, g0, z0, q1, sbAt_v, hl1, Int.toNat_natCast, List.getElem?_map, List.length_map, h])
    refine A_draw_of [49] [49, 52] (by kernel_rfl) ?_
    simp only [go_sem, seval, eq_self, reduceCtorEq, e4, t4, e6, ek, hsA, hsE, f1, f2, hrow, ← hla, Int.toNat_natCast, List.length_map]
    repeat' ((first | (refine AG_of ?_ ?_ <;> intro h) | (refine AB_of ?_ ?_ <;> intro h) | (refine A_draw_of [] [] (by kernel_rfl) ?_ <;> have h := mark)) <;> simp only [go_sem, seval, eq_self, reduceCtorEq, e4, t4, e6, ek, hsA, hsE, f1, f2, hrow, ← hla, Int.toNat_natCast, List.length_map, h])
    refine A_loop (seJ p o k b) (fun s => ((sbAt p o b).a ++ (sbAt p o b).e).length - (numOf (s.env 10)).toNat) ?_ ?_
    · exact ⟨⟨by simp [upd, e4], by simp [upd, t4], by simp [upd, e6]⟩, by simp [upd, ek], (s.st 8).ver + 1, (s.st 49).ver + 1 + 1, 0, by simp [upd], by omega, by simp [upd], by simp [upd], by simp [upd], by simp [upd], by simp [upd, t34]⟩
    clear e4 t4 e6 t34
    have ekO := ek
    clear ek
    intro s2 hs
    obtain ⟨⟨e4, t4, e6⟩, ek, v, w, j, ej, hj, e8, t8, e9, t49, t34⟩ := hs
    obtain ⟨L, hL⟩ : ∃ L, (sbAt p o b).a ++ (sbAt p o b).e = L := ⟨_, rfl⟩
    rw [hL] at hj e9 t49 t34 hcs hck hup ⊢
    have hLl : L.length ≤ 6 * p.code.length := by rw [← hL, List.length_append]; omega
    have n3 : IntKind.i64.wrap ((j : Int) + 1) = (j + 1 : Nat) := by rw [w_i64 (by omega) (by omega)]; omega
    have zj := Int.natCast_nonneg j
    rcases Nat.lt_or_ge j L.length with hjl | hjl
    · have g1 : decide ((j : Int) < (L.length : Int)) = true := by simp; omega
      have hjL : (j : Int) < (L.length : Int) := by omega
      obtain ⟨c, qc⟩ : ∃ c, L[j]? = some c := ⟨L[j], List.getElem?_eq_getElem hjl⟩
      obtain ⟨m, hm1, hm2, hm3, hm4⟩ := hck (List.mem_of_getElem? qc)
      have hmN : m < p.code.length := by omega
      have hmN2 : (m : Int) < (p.code.length : Int) := by omega
      have zm := Int.natCast_nonneg m
      have hF2 := hbd.1
      have hT2 := hbd.2.1
      have g2 : decide ((m : Int) < (bdAt p k : Int)) = false := by simp; omega
      have g3 : decide ((bdAt p (k + 1) : Int) ≤ (m : Int)) = false := by simp; omega
      have w1 : IntKind.i64.wrap ((m : Int) - (bdAt p k : Int)) = ((m - bdAt p k : Nat) : Int) := by rw [w_i64 (by omega) (by omega)]; omega
      have hht := hadL_at hmN (allC p o k ++ L.take j)
      have hset := hadL_set hmN (allC p o k ++ L.take j) hm1
      have htk : L.take (j + 1) = L.take j ++ [c] := by rw [List.take_add_one, qc]; rfl
      have hc6 : cnt m (allC p o k ++ L.take j) ≤ 6 := by
        have h1 := (hcnt m).1 hm3
        rw [hcs] at h1
        have h2 := cnt_pre m (allC p o k ++ L.take j) (L.drop j)
        rw [List.append_assoc, List.take_append_drop] at h2
        omega
      have w2 : IntKind.i64.wrap (((cnt m (allC p o k ++ L.take j) : Nat) : Int) + 1) = ((cnt m (allC p o k ++ L.take j) + 1 : Nat) : Int) := by rw [w_i64 (by omega) (by omega)]; omega
      have hhl := hadL_len p.code.length (allC p o k ++ L.take j)
      rw [List.append_assoc, ← htk] at hset
      obtain ⟨cc, hcc⟩ : ∃ cc, cnt m (allC p o k ++ L.take j) = cc := ⟨_, rfl⟩
      rw [hcc] at w2 hset hht
      have hcv : c.v = .agg [.s (.int .i64 c.kind), .s (.int .i64 c.ins.op), .s (.int .i64 c.ins.d), .s (.int .i64 c.ins.a), .s (.int .i64 c.ins.b), .s (.int .i64 c.ins.imm), .s (.int .i64 c.reg), .s (.int .i64 m), .s (.int .i64 ((m - bdAt p k : Nat) : Int))] := by rw [← hm1, ← hm4]; rfl
      have done : ∀ s' : S, s'.env 4 = s2.env 4 → s'.st 4 = s2.st 4 → s'.env 6 = s2.env 6 → s'.env 7 = s2.env 7 → s'.env 8 = s2.env 8 → s'.st 8 = s2.st 8 → s'.env 9 = s2.env 9 → s'.st 49 = s2.st 49 → s'.env 10 = .s (.int .i64 (j + 1 : Nat)) →
          s'.st 34 = ⟨1, .row 1 3 (hadL p.code.length (allC p o k ++ L.take (j + 1)))⟩ → seJ p o k b s' := fun s' a1 a2 a3 a4 a5 a6 a7 a8 a9 a10 =>
        ⟨⟨by rw [a1, e4], by rw [a2, t4], by rw [a3, e6]⟩, by rw [a4, ek], v, w, j + 1, a9, by rw [hL]; omega, by rw [a5, e8], by rw [a6, t8], by rw [a7, e9, hL], by rw [a8, t49, hL], by rw [a10, hL]⟩
      rcases Nat.eq_zero_or_pos j with hj0 | hj0
      · have g4 : decide (0 < (j : Int)) = false := by simp; omega
        simp only [go_sem, seval, eq_self, reduceCtorEq, e4, t4, e6, ek, ej, e8, t8, e9, t49, t34, g1, zj, hjL, qc, hcv, hF2, hT2, g2, g3, w1, g4, n3, bne_self_eq_false, zm, hmN2, hht, hhl, w2, hset, Int.toNat_natCast, List.getElem?_map, List.length_map]
        repeat' ((first | (refine AG_of ?_ ?_ <;> intro h) | (refine AB_of ?_ ?_ <;> intro h) | (refine A_draw_of [] [] (by kernel_rfl) ?_ <;> have h := mark)) <;> simp only [go_sem, seval, eq_self, reduceCtorEq, e4, t4, e6, ek, ej, e8, t8, e9, t49, t34, g1, zj, hjL, qc, hcv, hF2, hT2, g2, g3, w1, g4, n3, bne_self_eq_false, zm, hmN2, hht, hhl, w2, hset, Int.toNat_natCast, List.getElem?_map, List.length_map, h])
        refine ⟨done _ ?_ ?_ ?_ ?_ ?_ ?_ ?_ ?_ ?_ ?_, ?_⟩
        all_goals first | (simp [upd]; done) | (simp [upd, numOf, ej]; omega) | (simp only [hL, upd, numOf, ej]; simp; omega)
      have g4 : decide (0 < (j : Int)) = true := by simp; omega
      by_cases hja : j = (sbAt p o b).a.length
      · have g5 : ((j : Int) != ((sbAt p o b).a.length : Int)) = false := by simp; omega
        simp only [go_sem, seval, eq_self, reduceCtorEq, e4, t4, e6, ek, ej, e8, t8, e9, t49, t34, g1, zj, hjL, qc, hcv, hF2, hT2, g2, g3, w1, g4, g5, n3, bne_self_eq_false, zm, hmN2, hht, hhl, w2, hset, Int.toNat_natCast, List.getElem?_map, List.length_map]
        repeat' ((first | (refine AG_of ?_ ?_ <;> intro h) | (refine AB_of ?_ ?_ <;> intro h) | (refine A_draw_of [] [] (by kernel_rfl) ?_ <;> have h := mark)) <;> simp only [go_sem, seval, eq_self, reduceCtorEq, e4, t4, e6, ek, ej, e8, t8, e9, t49, t34, g1, zj, hjL, qc, hcv, hF2, hT2, g2, g3, w1, g4, g5, n3, bne_self_eq_false, zm, hmN2, hht, hhl, w2, hset, Int.toNat_natCast, List.getElem?_map, List.length_map, h])
        refine ⟨done _ ?_ ?_ ?_ ?_ ?_ ?_ ?_ ?_ ?_ ?_, ?_⟩
        all_goals first | (simp [upd]; done) | (simp [upd, numOf, ej]; omega) | (simp only [hL, upd, numOf, ej]; simp; omega)
      have g5 : ((j : Int) != ((sbAt p o b).a.length : Int)) = true := by simp; omega
      obtain ⟨J, rfl⟩ : ∃ J, j = J + 1 := ⟨j - 1, by omega⟩
      have w3 : IntKind.i64.wrap (((J + 1 : Nat) : Int) - 1) = (J : Nat) := by rw [w_i64 (by omega) (by omega)]; omega
      obtain ⟨d, qd⟩ : ∃ d, L[J]? = some d := ⟨L[J]'(by omega), List.getElem?_eq_getElem (by omega)⟩
      have hdc := hup (j := J + 1) (by omega) hja qc (by simpa using qd)
      have g6 : decide ((m : Int) < d.pc) = false := by simp; omega
      have zJ := Int.natCast_nonneg J
      have hJL : (J : Int) < (L.length : Int) := by omega
      have hdv : d.v = .agg [.s (.int .i64 d.kind), .s (.int .i64 d.ins.op), .s (.int .i64 d.ins.d), .s (.int .i64 d.ins.a), .s (.int .i64 d.ins.b), .s (.int .i64 d.ins.imm), .s (.int .i64 d.reg), .s (.int .i64 d.pc), .s (.int .i64 d.off)] := rfl
      simp only [go_sem, seval, eq_self, reduceCtorEq, e4, t4, e6, ek, ej, e8, t8, e9, t49, t34, g1, zj, hjL, qc, hcv, hF2, hT2, g2, g3, w1, g4, g5, w3, zJ, hJL, qd, hdv, g6, n3, bne_self_eq_false, zm, hmN2, hht, hhl, w2, hset, Int.toNat_natCast, List.getElem?_map, List.length_map]
      repeat' ((first | (refine AG_of ?_ ?_ <;> intro h) | (refine AB_of ?_ ?_ <;> intro h) | (refine A_draw_of [] [] (by kernel_rfl) ?_ <;> have h := mark)) <;> simp only [go_sem, seval, eq_self, reduceCtorEq, e4, t4, e6, ek, ej, e8, t8, e9, t49, t34, g1, zj, hjL, qc, hcv, hF2, hT2, g2, g3, w1, g4, g5, w3, zJ, hJL, qd, hdv, g6, n3, bne_self_eq_false, zm, hmN2, hht, hhl, w2, hset, Int.toNat_natCast, List.getElem?_map, List.length_map, h])
      refine ⟨done _ ?_ ?_ ?_ ?_ ?_ ?_ ?_ ?_ ?_ ?_, ?_⟩
      all_goals first | (simp [upd]; done) | (simp [upd, numOf, ej]; omega) | (simp only [hL, upd, numOf, ej]; simp; omega)
    · have hjl2 : j = L.length := by omega
      have g1 : decide ((j : Int) < (L.length : Int)) = false := by simp; omega
      rw [hjl2, List.take_length, ← hcs] at t34
      simp only [go_sem, seval, eq_self, reduceCtorEq, e4, t4, e6, ek, ej, e9, g1, n2]
      repeat' ((first | (refine AG_of ?_ ?_ <;> intro h) | (refine AB_of ?_ ?_ <;> intro h) | (refine A_draw_of [] [] (by kernel_rfl) ?_ <;> have h := mark)) <;> simp only [go_sem, seval, eq_self, reduceCtorEq, e4, t4, e6, ek, ej, e9, g1, n2, h])
      exact ⟨⟨⟨by simp [upd, e4], by simp [upd, t4], by simp [upd, e6]⟩, k + 1, by simp [upd], by omega, by simp [upd, t34]⟩, by simp [upd, numOf, ekO]; omega⟩
  · have hkl : k = (cutL p).length := by omega
    have g0 : decide ((k : Int) < ((cutL p).length : Int)) = false := by simp; omega
    rw [hkl] at t34
    have hcnt := fun m : Nat => cnt_all c2 o m (cutL p).length (Nat.le_refl _)
    rw [bd_end] at hcnt
    simp only [go_sem, seval, eq_self, reduceCtorEq, e4, t4, e6, ek, g0, hl1, List.length_map]
    repeat' ((first | (refine AG_of ?_ ?_ <;> intro h) | (refine AB_of ?_ ?_ <;> intro h) | (refine A_draw_of [] [] (by kernel_rfl) ?_ <;> have h := mark)) <;> simp only [go_sem, seval, eq_self, reduceCtorEq, e4, t4, e6, ek, g0, hl1, List.length_map, h])
    refine A_loop (seK p o) (fun s => p.code.length - (numOf (s.env 11)).toNat) ?_ ?_
    · exact ⟨by simp [upd, e6], by simp [upd, t34], 0, by simp [upd], by omega⟩
    clear e4 t4 e6 t34 ek
    intro s2 hs
    obtain ⟨e6, t34, i, ei, hi⟩ := hs
    have n3 : IntKind.i64.wrap ((i : Int) + 1) = (i + 1 : Nat) := by rw [w_i64 (by omega) (by omega)]; omega
    have zi := Int.natCast_nonneg i
    rcases Nat.lt_or_ge i p.code.length with hil | hil
    · have g1 : decide ((i : Int) < (p.code.length : Int)) = true := by simp; omega
      have hiN : (i : Int) < (p.code.length : Int) := by omega
      have hht := hadL_at hil (allC p o (cutL p).length)
      have hhl := hadL_len p.code.length (allC p o (cutL p).length)
      obtain ⟨h1, h2⟩ := (hcnt i).1 hil
      have g2 : decide (((cnt i (allC p o (cutL p).length) : Nat) : Int) < 1) = false := by simp; omega
      have g3 : decide (6 < ((cnt i (allC p o (cutL p).length) : Nat) : Int)) = false := by simp; omega
      simp only [go_sem, seval, eq_self, reduceCtorEq, e6, t34, ei, zi, g1, hiN, hht, hhl, g2, g3, n3, Int.toNat_natCast]
      repeat' ((first | (refine AG_of ?_ ?_ <;> intro h) | (refine AB_of ?_ ?_ <;> intro h) | (refine A_draw_of [] [] (by kernel_rfl) ?_ <;> have h := mark)) <;> simp only [go_sem, seval, eq_self, reduceCtorEq, e6, t34, ei, zi, g1, hiN, hht, hhl, g2, g3, n3, Int.toNat_natCast, h])
      exact ⟨⟨by simp [upd, e6], by simp [upd, t34], i + 1, by simp [upd], by omega⟩, by simp [upd, numOf, ei]; omega⟩
    · have g1 : decide ((i : Int) < (p.code.length : Int)) = false := by simp; omega
      simp only [go_sem, seval, eq_self, reduceCtorEq, e6, t34, ei, g1]
      repeat' ((first | (refine AG_of ?_ ?_ <;> intro h) | (refine AB_of ?_ ?_ <;> intro h) | (refine A_draw_of [] [] (by kernel_rfl) ?_ <;> have h := mark)) <;> simp only [go_sem, seval, eq_self, reduceCtorEq, e6, t34, ei, g1, h])
      all_goals (first | refine fin_ret ?_ | refine fin_normal ?_)
      all_goals simp only [resOf, Try.results4, Try.ntmps4, go_sem, seval, eq_self, reduceCtorEq]
theorem seach_ok {x : V} (h : ∃ p, prgOf x = some p ∧ p.data.all byte = true ∧ (∀ i ∈ p.code, WfI i) ∧ p.code.length ≤ maxLen ∧ p.data.length ≤ maxLen) : spSEach.fn [x] = some (.s (.bool true)) := by
  obtain ⟨p, hp, _⟩ := h
  simp only [spSEach, hp, Option.bind_some]
end Go.Proofs.Ytalcmfmhifcaeaa
