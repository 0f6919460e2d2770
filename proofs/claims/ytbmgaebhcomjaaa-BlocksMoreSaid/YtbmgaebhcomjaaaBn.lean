/-
BlocksMore by the plain reckoning. No condition.
-/
import Derived.Test.YtbmgaebhcomjaaaBm
namespace Go.Proofs.Ytbmgaebhcomjaaa
set_option linter.unusedSimpArgs false
set_option linter.unusedVariables false

def spBMore : Spec := ⟨[], fun xs => match xs with
  | [x, y] => (prgOf x).bind fun _ => (prgOf y).bind fun _ => some (.s (.bool true))
  | _ => none⟩
theorem spShift_v {n : Int} {l : Nat} (h1 : -1 ≤ n) (h2 : n ≤ 1000000) (h3 : l ≤ 1000000) : spShift.fn [.s (.int .i64 n), .s (.int .i64 l)] = some (.s (.int .i64 (if n < 0 then -1 else n + l))) := by
  simp only [spShift]
  rw [if_pos ⟨h1, h2, by omega, by omega⟩]
theorem scal_ins2 (l : List Ins) : (l.map Ins.v).all V.scal = true := by
  rw [List.all_eq_true]; intro x hx; obtain ⟨b, _, rfl⟩ := List.mem_map.1 hx; rfl
theorem more_call (p q : Prg) {c : List V} (hc : (p.code ++ q.code).map Ins.v = c) (k : Bool) : spCut.fn [.agg [.lst k 5 c, .s (.int .i64 p.size), .lst false 1 (p.data.map u8v)]] = some (if rightP (bothP p q) = true then .lst true 6 ((cutL (bothP p q)).map Blk4.v) else .s (.slice none 0 0)) := by
  have hp : prgOf (.agg [.lst k 5 c, .s (.int .i64 p.size), .lst false 1 (p.data.map u8v)]) = some (bothP p q) := by
    rw [← hc]
    have h1 := mapM_of (f := insOf) (g := Ins.v) (fun _ => rfl) (p.code ++ q.code)
    have h2 := mapM_of (f := u8Of) (g := u8v) (fun _ => rfl) p.data
    simp only [prgOf, lOf, if_true, Option.bind_some, h1, h2]
    rfl
  simp only [spCut, hp, Option.bind_some]
def moreI (p q : Prg) (s : S) : Prop := s.env 2 = .ptr 2 1 0 ∧ s.st 2 = ⟨1, .box (prgB p)⟩ ∧ s.env 6 = .lst true 6 ((cutL p).map Blk4.v) ∧ s.env 8 = .lst true 6 ((cutL (bothP p q)).map Blk4.v) ∧ s.env 9 = .lst true 6 ((cutL q).map Blk4.v) ∧ ∃ i : Nat, s.env 10 = .s (.int .i64 i) ∧ i ≤ (leadL p).length + (leadL q).length
theorem taken_bd {p : Prg} (hp : rightP p = true) {i : Nat} (hi : i < (leadL p).length) : -1 ≤ (blkAt p (leadL p) i).taken ∧ (blkAt p (leadL p) i).taken ≤ 1000000 ∧ -1 ≤ (blkAt p (leadL p) i).next ∧ (blkAt p (leadL p) i).next ≤ 1000000 ∧ 0 ≤ (blkAt p (leadL p) i).from_ ∧ (blkAt p (leadL p) i).from_ ≤ 1000000 ∧ 0 ≤ (blkAt p (leadL p) i).to_ ∧ (blkAt p (leadL p) i).to_ ≤ 1000000 := by
  have hpl := right_len hp
  have hll := leadL_len p
  obtain ⟨a, ha⟩ : ∃ a, (leadL p)[i]? = some a := ⟨(leadL p)[i], List.getElem?_eq_getElem hi⟩
  have hbd := toAt_bd ha
  have hlb := lead_bd (List.mem_of_getElem? ha)
  have h1 := blk_from ha
  have h2 := blk_to p i
  have h3 := blk_next p i
  have h4 : (blkAt p (leadL p) i).taken = -1 ∨ ∃ j : Nat, (blkAt p (leadL p) i).taken = j ∧ j < (leadL p).length := by
    obtain ⟨E, hE⟩ : ∃ E : Nat, ((E + 1 : Nat) : Int) = toAt p (leadL p) i := ⟨(toAt p (leadL p) i - 1).toNat, by omega⟩
    obtain ⟨x, qx⟩ : ∃ x, p.code[E]? = some x := ⟨p.code[E]'(by omega), List.getElem?_eq_getElem (by omega)⟩
    cases hb : brB x
    · left
      rw [blkAt_eq ha hE.symm rfl qx, hb]; rfl
    · obtain ⟨j, hj1, hj2, _⟩ := at_end hp hE qx hb
      exact .inr ⟨j, hj1, hj2⟩
  rw [h1, h2]
  refine ⟨?_, ?_, ?_, ?_, ?_, ?_, ?_, ?_⟩ <;> first | omega | (rcases h4 with h4 | ⟨j, h4, h5⟩ <;> omega) | (rcases h3 with h3 | ⟨h3, h5⟩ <;> omega)
set_option maxRecDepth 8000 in
set_option maxHeartbeats 8000000 in
theorem bmore_impl : Impl Try.prog 6 spBMore := by
  refine impl_walk2 mixed cB6_ok eqT_ok Try.func6 rfl Try.ntmps6 (by kernel_rfl) ?_
  intro xs r h
  unfold spBMore at h
  simp only at h
  (try split at h) <;> try (cases (show none = some r from h); done)
  rename_i x y
  obtain ⟨p, hp, h3⟩ := Option.bind_eq_some_iff.1 h
  obtain ⟨q, hq, h4⟩ := Option.bind_eq_some_iff.1 h3
  clear h h3
  cases h4
  refine ⟨_, (SeesL.cons (prgOf_sees hp) (.cons (prgOf_sees hq) .nil)).args, by simp, ?_⟩
  have hR := rightP_v p
  have hR' := rightP_v q
  simp only [Prg.v] at hR hR'
  by_cases c0 : 60 < p.code.length
  · have g0 : decide (60 < (p.code.length : Int)) = true := by simp; omega
    simp only [go_sem, seval, eq_self, reduceCtorEq, Prg.v, cB6_at, spTrueB_mv, spTrueB_fn, g0, List.length_map]
    repeat' ((first | (refine AG_of ?_ ?_ <;> intro h) | (refine AB_of ?_ ?_ <;> intro h) | (refine A_draw_of [] [] (by kernel_rfl) ?_ <;> have h := mark)) <;> simp only [go_sem, seval, eq_self, reduceCtorEq, Prg.v, cB6_at, spTrueB_mv, spTrueB_fn, g0, List.length_map, h])
    all_goals (first | refine fin_ret ?_ | refine fin_normal ?_)
    all_goals simp only [resOf, Try.results6, Try.ntmps6, go_sem, seval, eq_self, reduceCtorEq]
  have g0 : decide (60 < (p.code.length : Int)) = false := by simp; omega
  by_cases c1 : 60 < q.code.length
  · have g1 : decide (60 < (q.code.length : Int)) = true := by simp; omega
    simp only [go_sem, seval, eq_self, reduceCtorEq, Prg.v, cB6_at, spTrueB_mv, spTrueB_fn, g0, g1, List.length_map]
    repeat' ((first | (refine AG_of ?_ ?_ <;> intro h) | (refine AB_of ?_ ?_ <;> intro h) | (refine A_draw_of [] [] (by kernel_rfl) ?_ <;> have h := mark)) <;> simp only [go_sem, seval, eq_self, reduceCtorEq, Prg.v, cB6_at, spTrueB_mv, spTrueB_fn, g0, g1, List.length_map, h])
    all_goals (first | refine fin_ret ?_ | refine fin_normal ?_)
    all_goals simp only [resOf, Try.results6, Try.ntmps6, go_sem, seval, eq_self, reduceCtorEq]
  have g1 : decide (60 < (q.code.length : Int)) = false := by simp; omega
  cases c2 : rightP p
  · rw [c2] at hR
    simp only [go_sem, seval, eq_self, reduceCtorEq, Prg.v, cB6_at, spTrueB_mv, spTrueB_fn, g0, g1, spRightP_mv, hR, List.length_map]
    repeat' ((first | (refine AG_of ?_ ?_ <;> intro h) | (refine AB_of ?_ ?_ <;> intro h) | (refine A_draw_of [] [] (by kernel_rfl) ?_ <;> have h := mark)) <;> simp only [go_sem, seval, eq_self, reduceCtorEq, Prg.v, cB6_at, spTrueB_mv, spTrueB_fn, g0, g1, spRightP_mv, hR, List.length_map, h])
    all_goals (first | refine fin_ret ?_ | refine fin_normal ?_)
    all_goals simp only [resOf, Try.results6, Try.ntmps6, go_sem, seval, eq_self, reduceCtorEq]
  rw [c2] at hR
  cases c3 : rightP q
  · rw [c3] at hR'
    simp only [go_sem, seval, eq_self, reduceCtorEq, Prg.v, cB6_at, spTrueB_mv, spTrueB_fn, g0, g1, spRightP_mv, hR, hR', List.length_map]
    repeat' ((first | (refine AG_of ?_ ?_ <;> intro h) | (refine AB_of ?_ ?_ <;> intro h) | (refine A_draw_of [] [] (by kernel_rfl) ?_ <;> have h := mark)) <;> simp only [go_sem, seval, eq_self, reduceCtorEq, Prg.v, cB6_at, spTrueB_mv, spTrueB_fn, g0, g1, spRightP_mv, hR, hR', List.length_map, h])
    all_goals (first | refine fin_ret ?_ | refine fin_normal ?_)
    all_goals simp only [resOf, Try.results6, Try.ntmps6, go_sem, seval, eq_self, reduceCtorEq]
  rw [c3] at hR'
  have hpl := right_len c2
  obtain ⟨E, hE⟩ : ∃ E : Nat, p.code.length = E + 1 := ⟨p.code.length - 1, by omega⟩
  have wE : IntKind.i64.wrap ((p.code.length : Int) - 1) = (E : Nat) := by rw [w_i64 (by omega) (by omega)]; omega
  have zE := Int.natCast_nonneg E
  obtain ⟨x, qx⟩ : ∃ x, p.code[E]? = some x := ⟨p.code[E]'(by omega), List.getElem?_eq_getElem (by omega)⟩
  have hop := op_halt2 (right_at c2 qx).1
  cases c4 : (x.op != 41)
  case true =>
    simp only [go_sem, seval, eq_self, reduceCtorEq, Prg.v, cB6_at, spTrueB_mv, spTrueB_fn, g0, g1, spRightP_mv, hR, hR', wE, zE, qx, c4, Ins.v, Int.toNat_natCast, List.getElem?_map, List.length_map]
    repeat' ((first | (refine AG_of ?_ ?_ <;> intro h) | (refine AB_of ?_ ?_ <;> intro h) | (refine A_draw_of [] [] (by kernel_rfl) ?_ <;> have h := mark)) <;> simp only [go_sem, seval, eq_self, reduceCtorEq, Prg.v, cB6_at, spTrueB_mv, spTrueB_fn, g0, g1, spRightP_mv, hR, hR', wE, zE, qx, c4, Ins.v, Int.toNat_natCast, List.getElem?_map, List.length_map, h])
    all_goals (first | refine fin_ret ?_ | refine fin_normal ?_)
    all_goals simp only [resOf, Try.results6, Try.ntmps6, go_sem, seval, eq_self, reduceCtorEq]
  have h8 : form x.op = 8 := by
    rw [c4] at hop
    simpa using hop.symm
  have hx8 : ∃ x, p.code[p.code.length - 1]? = some x ∧ form x.op = 8 := ⟨x, by rw [hE]; exact qx, h8⟩
  have hh : endAt p (p.code.length - 1) = true := by unfold endAt; rw [hE]; simp [qx, endB, h8]
  have hbr := both_right c2 c3 (by omega) (by omega)
  have hC := spCut_v p
  have hC' := spCut_v q
  simp only [Prg.v] at hC hC'
  rw [c2] at hC
  rw [c3] at hC'
  simp only [if_true] at hC hC'
  obtain ⟨O, hO⟩ : ∃ O, p.code.map Ins.v = O := ⟨_, rfl⟩
  obtain ⟨O', hO'⟩ : ∃ O, q.code.map Ins.v = O := ⟨_, rfl⟩
  have hB := more_call p q (c := O ++ O') (by rw [List.map_append, hO, hO']) false
  rw [hbr] at hB
  simp only [if_true] at hB
  have hsc := scal_ins2 p.code
  have hsc' := scal_ins2 q.code
  rw [hO] at hsc
  rw [hO'] at hsc'
  have hOl : O.length = p.code.length := by rw [← hO, List.length_map]
  have hOl' : O'.length = q.code.length := by rw [← hO', List.length_map]
  have qO : O[E]? = some x.v := by rw [← hO, List.getElem?_map, qx]; rfl
  have f1 : p.code.length * 40 ≤ 140737488355328 := by omega
  have f2 : (p.code.length + q.code.length) * 40 ≤ 140737488355328 := by omega
  have hcl := cutL_len p
  have hcl' := cutL_len q
  have hclB := cutL_len (bothP p q)
  have hml := more_len c2 c3 hh
  rw [hml] at hclB
  have hll := leadL_len p
  have hll' := leadL_len q
  have w0 : IntKind.i64.wrap (((leadL p).length : Int) + (leadL q).length) = ((leadL p).length + (leadL q).length : Nat) := by rw [w_i64 (by omega) (by omega)]; omega
  rw [hO] at hR hC
  rw [hO'] at hR' hC'
  simp only [go_sem, seval, eq_self, reduceCtorEq, Prg.v, hO, hO', cB6_at, spTrueB_mv, spTrueB_fn, g0, g1, spRightP_mv, hR, hR', wE, zE, qO, c4, Ins.v, spCut_mv, hC, hOl, hOl', Int.toNat_natCast, List.length_map]
  repeat' ((first | (refine AG_of ?_ ?_ <;> intro h) | (refine AB_of ?_ ?_ <;> intro h)) <;> simp only [go_sem, seval, eq_self, reduceCtorEq, Prg.v, hO, hO', cB6_at, spTrueB_mv, spTrueB_fn, g0, g1, spRightP_mv, hR, hR', wE, zE, qO, c4, Ins.v, spCut_mv, hC, hOl, hOl', Int.toNat_natCast, List.length_map, h])
  refine A_draw_of [7, 58] [58, 61, 7, 100007] (by kernel_rfl) ?_
  simp only [go_sem, seval, eq_self, reduceCtorEq, Prg.v, hO, hO', cB6_at, hsc, hsc', f1, f2, hOl, hOl', hcl, hcl', hclB, w0, spCut_mv, hB, hC', bne_self_eq_false, List.all_append, List.length_append, List.length_map]
  repeat' ((first | (refine AG_of ?_ ?_ <;> intro h) | (refine AB_of ?_ ?_ <;> intro h) | (refine A_draw_of [] [] (by kernel_rfl) ?_ <;> have h := mark)) <;> simp only [go_sem, seval, eq_self, reduceCtorEq, Prg.v, hO, hO', cB6_at, hsc, hsc', f1, f2, hOl, hOl', hcl, hcl', hclB, w0, spCut_mv, hB, hC', bne_self_eq_false, List.all_append, List.length_append, List.length_map, h])
  refine A_loop (moreI p q) (fun s => ((leadL p).length + (leadL q).length) - (numOf (s.env 10)).toNat) ?_ ?_
  · exact ⟨by simp [upd], by simp [upd, prgB, hO, V.unfr, V.unfrL, V.cells], by simp [upd], by simp [upd], by simp [upd], 0, by simp [upd], by omega⟩
  intro s hs
  obtain ⟨e2, t2, e6, e8, e9, i, ei, hi⟩ := hs
  have n2 : IntKind.i64.wrap ((i : Int) + 1) = (i + 1 : Nat) := by rw [w_i64 (by omega) (by omega)]; omega
  have z0 := Int.natCast_nonneg i
  rcases Nat.lt_or_ge i ((leadL p).length + (leadL q).length) with hlt | hge
  · have k0 : decide ((i : Int) < (((leadL p).length + (leadL q).length : Nat) : Int)) = true := by simp; omega
    have qB := cut_at (p := bothP p q) (i := i) (by omega)
    rcases Nat.lt_or_ge i (leadL p).length with hl1 | hl1
    · have k1 : decide ((i : Int) < ((leadL p).length : Int)) = true := by simp; omega
      have qA := cut_at (p := p) hl1
      rw [more1 c2 c3 hx8 hl1] at qB
      obtain ⟨b, hb⟩ : ∃ b, blkAt p (leadL p) i = b := ⟨_, rfl⟩
      rw [hb] at qA qB
      simp only [go_sem, seval, eq_self, reduceCtorEq, e2, t2, e6, e8, e9, ei, k0, k1, z0, n2, qA, qB, hcl, hclB, Blk4.v, bne_self_eq_false, Int.toNat_natCast, List.getElem?_map, List.length_map]
      repeat' ((first | (refine AG_of ?_ ?_ <;> intro h) | (refine AB_of ?_ ?_ <;> intro h) | (refine A_draw_of [] [] (by kernel_rfl) ?_ <;> have h := mark)) <;> simp only [go_sem, seval, eq_self, reduceCtorEq, e2, t2, e6, e8, e9, ei, k0, k1, z0, n2, qA, qB, hcl, hclB, Blk4.v, bne_self_eq_false, Int.toNat_natCast, List.getElem?_map, List.length_map, h])
      exact ⟨⟨by simp [upd, e2], by simp [upd, t2], by simp [upd, e6, Blk4.v], by simp [upd, e8, Blk4.v], by simp [upd, e9, Blk4.v], i + 1, by simp [upd], by omega⟩, by simp [upd, numOf, ei]; omega⟩
    · have k1 : decide ((i : Int) < ((leadL p).length : Int)) = false := by simp; omega
      obtain ⟨m, rfl⟩ : ∃ m, i = (leadL p).length + m := ⟨i - (leadL p).length, by omega⟩
      have hm : m < (leadL q).length := by omega
      have qC := cut_at (p := q) hm
      rw [more2 c2 c3 hh hm] at qB
      have htb := taken_bd c3 hm
      obtain ⟨b, hb⟩ : ∃ b, blkAt q (leadL q) m = b := ⟨_, rfl⟩
      rw [hb] at qC qB htb
      obtain ⟨b1, b2, b3, b4, b5, b6, b7, b8⟩ := htb
      have w1 : IntKind.i64.wrap ((((leadL p).length + m : Nat) : Int) - (leadL p).length) = (m : Nat) := by rw [w_i64 (by omega) (by omega)]; omega
      have z1 := Int.natCast_nonneg m
      have w2 : IntKind.i64.wrap (b.from_ + p.code.length) = b.from_ + p.code.length := w_i64 (by omega) (by omega)
      have w3 : IntKind.i64.wrap (b.to_ + p.code.length) = b.to_ + p.code.length := w_i64 (by omega) (by omega)
      have s1 := spShift_v (l := (leadL p).length) b3 b4 (by omega)
      have s2 := spShift_v (l := (leadL p).length) b1 b2 (by omega)
      obtain ⟨c, hc⟩ : ∃ c, shB p.code.length (leadL p).length b = c := ⟨_, rfl⟩
      rw [hc] at qB
      have hc1 : c.from_ = b.from_ + p.code.length := by rw [← hc]; rfl
      have hc2 : c.to_ = b.to_ + p.code.length := by rw [← hc]; rfl
      have hc3 : (if b.next < 0 then -1 else b.next + (leadL p).length) = c.next := by rw [← hc]; rfl
      have hc4 : (if b.taken < 0 then -1 else b.taken + (leadL p).length) = c.taken := by rw [← hc]; rfl
      rw [hc3] at s1
      rw [hc4] at s2
      simp only [go_sem, seval, eq_self, reduceCtorEq, e2, t2, e6, e8, e9, ei, k0, k1, z0, z1, n2, w1, w2, w3, s1, s2, hc1, hc2, qC, qB, hcl, hcl', hclB, prgB, hO, hOl, Blk4.v, cB6_at, spShift_mv, bne_self_eq_false, Int.toNat_natCast, List.getElem?_map, List.length_map]
      repeat' ((first | (refine AG_of ?_ ?_ <;> intro h) | (refine AB_of ?_ ?_ <;> intro h) | (refine A_draw_of [] [] (by kernel_rfl) ?_ <;> have h := mark)) <;> simp only [go_sem, seval, eq_self, reduceCtorEq, e2, t2, e6, e8, e9, ei, k0, k1, z0, z1, n2, w1, w2, w3, s1, s2, hc1, hc2, qC, qB, hcl, hcl', hclB, prgB, hO, hOl, Blk4.v, cB6_at, spShift_mv, bne_self_eq_false, Int.toNat_natCast, List.getElem?_map, List.length_map, h])
      exact ⟨⟨by simp [upd, e2], by simp [upd, t2, prgB], by simp [upd, e6, Blk4.v], by simp [upd, e8, Blk4.v], by simp [upd, e9, Blk4.v], (leadL p).length + m + 1, by simp [upd], by omega⟩, by simp [upd, numOf, ei]; omega⟩
  · have k0 : decide ((i : Int) < (((leadL p).length + (leadL q).length : Nat) : Int)) = false := by simp; omega
    simp only [go_sem, seval, eq_self, reduceCtorEq, e2, t2, e6, e8, e9, ei, k0, hclB, List.length_map]
    repeat' ((first | (refine AG_of ?_ ?_ <;> intro h) | (refine AB_of ?_ ?_ <;> intro h) | (refine A_draw_of [] [] (by kernel_rfl) ?_ <;> have h := mark)) <;> simp only [go_sem, seval, eq_self, reduceCtorEq, e2, t2, e6, e8, e9, ei, k0, hclB, List.length_map, h])
    all_goals (first | refine fin_ret ?_ | refine fin_normal ?_)
    all_goals simp only [resOf, Try.results6, Try.ntmps6, go_sem, seval, eq_self, reduceCtorEq]

end Go.Proofs.Ytbmgaebhcomjaaa
