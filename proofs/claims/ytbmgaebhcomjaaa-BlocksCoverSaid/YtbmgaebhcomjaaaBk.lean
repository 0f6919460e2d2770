/-
BlocksCover by the plain reckoning. No condition.
-/
import Derived.Test.YtbmgaebhcomjaaaBj
namespace Go.Proofs.Ytbmgaebhcomjaaa
set_option linter.unusedSimpArgs false
set_option linter.unusedVariables false

def atOf (p : Prg) (i : Nat) : Int := if i < (leadL p).length then (leadL p).getD i 0 else p.code.length
theorem atOf_succ (p : Prg) (i : Nat) : atOf p (i + 1) = toAt p (leadL p) i := rfl
def covI (p : Prg) (s : S) : Prop := s.env 1 = .ptr 1 1 0 ∧ s.st 1 = ⟨1, .box (prgB p)⟩ ∧ s.env 4 = .lst true 6 ((cutL p).map Blk4.v) ∧ ∃ i : Nat, s.env 6 = .s (.int .i64 i) ∧ i ≤ (leadL p).length ∧ s.env 5 = .s (.int .i64 (atOf p i))
def blkB (b : Blk4) : List V := [.s (.int .i64 b.from_), .s (.int .i64 b.to_), .s (.int .i64 b.next), .s (.int .i64 b.taken), .s (.slice none 0 0), .s (.slice none 0 0)]
def covJ (p : Prg) (i v : Nat) (b : Blk4) (s : S) : Prop := s.env 1 = .ptr 1 1 0 ∧ s.st 1 = ⟨1, .box (prgB p)⟩ ∧ s.env 4 = .lst true 6 ((cutL p).map Blk4.v) ∧ s.env 6 = .s (.int .i64 i) ∧ s.env 7 = .ptr 7 v 0 ∧ s.st 7 = ⟨v, .box (blkB b)⟩ ∧ ∃ n : Nat, s.env 8 = .s (.int .i64 n) ∧ b.from_ ≤ n ∧ n ≤ b.to_
set_option maxRecDepth 4000 in
set_option maxHeartbeats 8000000 in
theorem bcover_impl : Impl Try.prog 4 spBTell := by
  refine impl_walk2 mixed cB6_ok eqT_ok Try.func4 rfl Try.ntmps4 (by kernel_rfl) ?_
  intro xs r h
  unfold spBTell at h
  simp only at h
  (try split at h) <;> try (cases (show none = some r from h); done)
  rename_i x
  obtain ⟨p, hp, h3⟩ := Option.bind_eq_some_iff.1 h
  clear h
  cases h3
  refine ⟨_, (SeesL.cons (prgOf_sees hp) .nil).args, by simp, ?_⟩
  have hf := few_v p
  have hR := rightP_v p
  simp only [Prg.v] at hf hR
  cases c1 : fewB p
  · rw [c1] at hf
    simp only [go_sem, seval, eq_self, reduceCtorEq, Prg.v, cB6_at, spTrueB_mv, spTrueB_fn, spFew_mv, hf]
    repeat' ((first | (refine AG_of ?_ ?_ <;> intro h) | (refine AB_of ?_ ?_ <;> intro h) | (refine A_draw_of [] [] (by kernel_rfl) ?_ <;> have h := mark)) <;> simp only [go_sem, seval, eq_self, reduceCtorEq, Prg.v, cB6_at, spTrueB_mv, spTrueB_fn, spFew_mv, hf, h])
    all_goals (first | refine fin_ret ?_ | refine fin_normal ?_)
    all_goals simp only [resOf, Try.results4, Try.ntmps4, go_sem, seval, eq_self, reduceCtorEq]
  rw [c1] at hf
  cases c2 : rightP p
  · rw [c2] at hR
    simp only [go_sem, seval, eq_self, reduceCtorEq, Prg.v, cB6_at, spTrueB_mv, spTrueB_fn, spFew_mv, hf, spRightP_mv, hR]
    repeat' ((first | (refine AG_of ?_ ?_ <;> intro h) | (refine AB_of ?_ ?_ <;> intro h) | (refine A_draw_of [] [] (by kernel_rfl) ?_ <;> have h := mark)) <;> simp only [go_sem, seval, eq_self, reduceCtorEq, Prg.v, cB6_at, spTrueB_mv, spTrueB_fn, spFew_mv, hf, spRightP_mv, hR, h])
    all_goals (first | refine fin_ret ?_ | refine fin_normal ?_)
    all_goals simp only [resOf, Try.results4, Try.ntmps4, go_sem, seval, eq_self, reduceCtorEq]
  rw [c2] at hR
  have hC := spCut_v p
  simp only [Prg.v] at hC
  rw [c2] at hC
  simp only [if_true] at hC
  have hpl := right_len c2
  have hll := leadL_len p
  have hcl := cutL_len p
  have hl0 := lead_zero c2
  have hz : atOf p 0 = 0 := by
    have := leadL_ne c2
    unfold atOf
    rw [if_pos (by cases e : leadL p with | nil => exact absurd e this | cons a l => simp), List.getD_eq_getElem?_getD, hl0]; rfl
  have gm : decide ((-1 : Int) ≥ 0) = false := rfl
  simp only [go_sem, seval, eq_self, reduceCtorEq, Prg.v, cB6_at, spTrueB_mv, spTrueB_fn, spFew_mv, hf, spRightP_mv, hR, spCut_mv, hC]
  repeat' ((first | (refine AG_of ?_ ?_ <;> intro h) | (refine AB_of ?_ ?_ <;> intro h) | (refine A_draw_of [] [] (by kernel_rfl) ?_ <;> have h := mark)) <;> simp only [go_sem, seval, eq_self, reduceCtorEq, Prg.v, cB6_at, spTrueB_mv, spTrueB_fn, spFew_mv, hf, spRightP_mv, hR, spCut_mv, hC, h])
  refine A_loop (covI p) (fun s => (leadL p).length - (numOf (s.env 6)).toNat) ?_ ?_
  · exact ⟨by simp [upd], by simp [upd, prgB, V.unfr, V.unfrL, V.cells], by simp [upd], 0, by simp [upd], by omega, by simp [upd, hz]⟩
  intro s hs
  obtain ⟨e1, t1, e4, i, ei, hi, e5⟩ := hs
  rcases Nat.lt_or_ge i (leadL p).length with hlt | hge
  · obtain ⟨a, q⟩ : ∃ a, (leadL p)[i]? = some a := ⟨(leadL p)[i], List.getElem?_eq_getElem hlt⟩
    have qc := cut_at (p := p) hlt
    have hbd := toAt_bd q
    have hfr := blk_from q
    have hnx := blk_next p i
    have hto := blk_to p i
    have hat : atOf p i = a := by unfold atOf; rw [if_pos hlt, List.getD_eq_getElem?_getD, q]; rfl
    have hlb := lead_bd (List.mem_of_getElem? q)
    have hend := fun {n : Nat} {x : Ins} (h1 : ((n + 1 : Nat) : Int) = toAt p (leadL p) i) (hx : p.code[n]? = some x) (hb : brB x = true) => at_end c2 h1 hx hb
    obtain ⟨b, hb⟩ : ∃ b, blkAt p (leadL p) i = b := ⟨_, rfl⟩
    obtain ⟨f, t, nx, tk⟩ := b
    simp only [hb] at qc hfr hto hnx hend
    subst hfr
    subst hto
    rw [hat] at e5
    have g0 : decide ((i : Int) < (leadL p).length) = true := by simp; omega
    have z0 := Int.natCast_nonneg i
    have n2 : IntKind.i64.wrap ((i : Int) + 1) = (i + 1 : Nat) := by rw [w_i64 (by omega) (by omega)]; omega
    have gA : decide (toAt p (leadL p) i ≤ f) = false := by simp; omega
    have gB : decide (toAt p (leadL p) i > (p.code.length : Int)) = false := by simp; omega
    obtain ⟨T, hT⟩ : ∃ T, toAt p (leadL p) i = T := ⟨_, rfl⟩
    have hblk := fun {n : Nat} {x : Ins} (h0 : f ≤ n) (h1 : ((n + 1 : Nat) : Int) < toAt p (leadL p) i) (hx : p.code[n]? = some x) => in_block c2 q h0 h1 hx
    rw [hT] at gA gB hbd qc
    simp only [hT] at hblk hend
    have has : atOf p (i + 1) = T := by rw [atOf_succ, hT]
    simp only [go_sem, seval, eq_self, reduceCtorEq, e1, t1, e4, ei, e5, qc, g0, z0, gA, gB, prgB, Blk4.v, bne_self_eq_false, hcl, Int.toNat_natCast, List.getElem?_map, List.length_map]
    repeat' ((first | (refine AG_of ?_ ?_ <;> intro h) | (refine AB_of ?_ ?_ <;> intro h) | (refine A_draw_of [] [] (by kernel_rfl) ?_ <;> have h := mark)) <;> simp only [go_sem, seval, eq_self, reduceCtorEq, e1, t1, e4, ei, e5, qc, g0, z0, gA, gB, prgB, Blk4.v, bne_self_eq_false, hcl, Int.toNat_natCast, List.getElem?_map, List.length_map, h])
    refine A_loop (covJ p i ((s.st 7).ver + 1) ⟨f, T, nx, tk⟩) (fun s => T.toNat - (numOf (s.env 8)).toNat) ?_ ?_
    · exact ⟨by simp [upd, e1], by simp [upd, t1, prgB], by simp [upd, e4, Blk4.v], by simp [upd, ei], by simp [upd], by simp [upd, blkB, V.unfr, V.unfrL, V.cells], f.toNat, by simp [upd]; omega, by simp only; omega, by simp only; omega⟩
    intro s hs
    obtain ⟨e1, t1, e4, ei, e7, t7, n, en, hn1, hn2⟩ := hs
    simp only at hn1 hn2
    rcases Int.lt_or_le (n : Int) T with hnT | hnT
    · obtain ⟨x, qx⟩ : ∃ x, p.code[n]? = some x := ⟨p.code[n]'(by omega), List.getElem?_eq_getElem (by omega)⟩
      have k0 : decide ((n : Int) < T) = true := by simp; omega
      have y0 := Int.natCast_nonneg n
      have m2 : IntKind.i64.wrap ((n : Int) + 1) = (n + 1 : Nat) := by rw [w_i64 (by omega) (by omega)]; omega
      have hTg := rtarget_v c2 qx
      simp only [Prg.v] at hTg
      rcases Int.lt_or_le ((n + 1 : Nat) : Int) T with hin | hin
      · obtain ⟨h6, hbr⟩ := hblk hn1 hin qx
        have k1 : decide (((n + 1 : Nat) : Int) < T) = true := by simp; omega
        have k2 : decide (form x.op ≥ 6) = false := by simp; omega
        rw [hbr] at hTg
        simp only [Bool.false_eq_true, if_false] at hTg
        simp only [go_sem, seval, eq_self, reduceCtorEq, e1, t1, e4, ei, e7, t7, en, qx, k0, k1, k2, y0, m2, hTg, gm, prgB, blkB, Ins.v, cB6_at, spForm_mv, spForm_fn, spRTarget_mv, hcl, Int.toNat_natCast, List.getElem?_map, List.length_map]
        repeat' ((first | (refine AG_of ?_ ?_ <;> intro h) | (refine AB_of ?_ ?_ <;> intro h) | (refine A_draw_of [] [] (by kernel_rfl) ?_ <;> have h := mark)) <;> simp only [go_sem, seval, eq_self, reduceCtorEq, e1, t1, e4, ei, e7, t7, en, qx, k0, k1, k2, y0, m2, hTg, gm, prgB, blkB, Ins.v, cB6_at, spForm_mv, spForm_fn, spRTarget_mv, hcl, Int.toNat_natCast, List.getElem?_map, List.length_map, h])
        exact ⟨⟨by simp [upd, e1], by simp [upd, t1, prgB], by simp [upd, e4], by simp [upd, ei], by simp [upd, e7], by simp [upd, t7, blkB], n + 1, by simp [upd], by simp only; omega, by simp only; omega⟩, by simp [upd, numOf, en]; omega⟩
      · have hEq : ((n + 1 : Nat) : Int) = T := by omega
        have k1 : decide (((n + 1 : Nat) : Int) < T) = false := by simp; omega
        cases hbr : brB x
        · rw [hbr] at hTg
          simp only [Bool.false_eq_true, if_false] at hTg
          simp only [go_sem, seval, eq_self, reduceCtorEq, e1, t1, e4, ei, e7, t7, en, qx, k0, k1, y0, m2, hTg, gm, prgB, blkB, Ins.v, cB6_at, spForm_mv, spForm_fn, spRTarget_mv, hcl, Int.toNat_natCast, List.getElem?_map, List.length_map]
          repeat' ((first | (refine AG_of ?_ ?_ <;> intro h) | (refine AB_of ?_ ?_ <;> intro h) | (refine A_draw_of [] [] (by kernel_rfl) ?_ <;> have h := mark)) <;> simp only [go_sem, seval, eq_self, reduceCtorEq, e1, t1, e4, ei, e7, t7, en, qx, k0, k1, y0, m2, hTg, gm, prgB, blkB, Ins.v, cB6_at, spForm_mv, spForm_fn, spRTarget_mv, hcl, Int.toNat_natCast, List.getElem?_map, List.length_map, h])
          exact ⟨⟨by simp [upd, e1], by simp [upd, t1, prgB], by simp [upd, e4], by simp [upd, ei], by simp [upd, e7], by simp [upd, t7, blkB], n + 1, by simp [upd], by simp only; omega, by simp only; omega⟩, by simp [upd, numOf, en]; omega⟩
        · obtain ⟨j, hj1, hj2, hj3⟩ := hend hEq qx hbr
          (try simp only at hj1)
          subst hj1
          rw [hbr] at hTg
          simp only [if_true] at hTg
          have hr2 := (right_at c2 qx).2 hbr
          obtain ⟨tn, htn⟩ : ∃ t : Nat, (n : Int) + x.imm = t := ⟨((n : Int) + x.imm).toNat, by omega⟩
          rw [htn] at hTg hj3
          have qj := cut_at (p := p) hj2
          have hfj := blk_from hj3
          obtain ⟨bj, hbj⟩ : ∃ b, blkAt p (leadL p) j = b := ⟨_, rfl⟩
          obtain ⟨fj, tj, nj, kj⟩ := bj
          simp only [hbj] at qj hfj
          subst hfj
          have k3 : decide ((tn : Int) ≥ 0) = true := by simp
          have k4 : decide ((j : Int) < 0) = false := by simp
          have k5 : decide ((j : Int) ≥ ((leadL p).length : Int)) = false := by simp; omega
          have k6 := Int.natCast_nonneg j
          simp only [go_sem, seval, eq_self, reduceCtorEq, e1, t1, e4, ei, e7, t7, en, qx, qj, k0, k1, k3, k4, k5, k6, y0, m2, hTg, gm, prgB, blkB, Blk4.v, Ins.v, cB6_at, spForm_mv, spForm_fn, spRTarget_mv, bne_self_eq_false, hcl, Int.toNat_natCast, List.getElem?_map, List.length_map]
          repeat' ((first | (refine AG_of ?_ ?_ <;> intro h) | (refine AB_of ?_ ?_ <;> intro h) | (refine A_draw_of [] [] (by kernel_rfl) ?_ <;> have h := mark)) <;> simp only [go_sem, seval, eq_self, reduceCtorEq, e1, t1, e4, ei, e7, t7, en, qx, qj, k0, k1, k3, k4, k5, k6, y0, m2, hTg, gm, prgB, blkB, Blk4.v, Ins.v, cB6_at, spForm_mv, spForm_fn, spRTarget_mv, bne_self_eq_false, hcl, Int.toNat_natCast, List.getElem?_map, List.length_map, h])
          exact ⟨⟨by simp [upd, e1], by simp [upd, t1, prgB], by simp [upd, e4, Blk4.v], by simp [upd, ei], by simp [upd, e7], by simp [upd, t7, blkB], n + 1, by simp [upd], by simp only; omega, by simp only; omega⟩, by simp [upd, numOf, en]; omega⟩
    · have hEq : (n : Int) = T := by omega
      have k0 : decide ((n : Int) < T) = false := by simp; omega
      rcases hnx with rfl | ⟨rfl, hnl⟩
      ·
        simp only [go_sem, seval, eq_self, reduceCtorEq, e1, t1, e4, ei, e7, t7, en, k0, n2, gm, prgB, blkB, hcl, List.length_map]
        repeat' ((first | (refine AG_of ?_ ?_ <;> intro h) | (refine AB_of ?_ ?_ <;> intro h) | (refine A_draw_of [] [] (by kernel_rfl) ?_ <;> have h := mark)) <;> simp only [go_sem, seval, eq_self, reduceCtorEq, e1, t1, e4, ei, e7, t7, en, k0, n2, gm, prgB, blkB, hcl, List.length_map, h])
        exact ⟨⟨by simp [upd, e1], by simp [upd, t1, prgB], by simp [upd, e4], i + 1, by simp [upd], by omega, by simp [upd, has]⟩, by simp [upd, numOf, ei]; omega⟩
      · have k3 : decide (((i + 1 : Nat) : Int) ≥ 0) = true := by simp; omega
        have k5 : decide (((i + 1 : Nat) : Int) ≥ ((leadL p).length : Int)) = false := by simp; omega
        simp only [go_sem, seval, eq_self, reduceCtorEq, e1, t1, e4, ei, e7, t7, en, k0, k3, k5, n2, gm, prgB, blkB, bne_self_eq_false, hcl, List.length_map]
        repeat' ((first | (refine AG_of ?_ ?_ <;> intro h) | (refine AB_of ?_ ?_ <;> intro h) | (refine A_draw_of [] [] (by kernel_rfl) ?_ <;> have h := mark)) <;> simp only [go_sem, seval, eq_self, reduceCtorEq, e1, t1, e4, ei, e7, t7, en, k0, k3, k5, n2, gm, prgB, blkB, bne_self_eq_false, hcl, List.length_map, h])
        exact ⟨⟨by simp [upd, e1], by simp [upd, t1, prgB], by simp [upd, e4], i + 1, by simp [upd], by omega, by simp [upd, has]⟩, by simp [upd, numOf, ei]; omega⟩
  · have g0 : decide ((i : Int) < (leadL p).length) = false := by simp; omega
    have hat : atOf p i = p.code.length := by unfold atOf; rw [if_neg (by omega)]
    rw [hat] at e5
    simp only [go_sem, seval, eq_self, reduceCtorEq, e1, t1, e4, ei, e5, g0, prgB, hcl, beq_self_eq_true, List.length_map]
    repeat' ((first | (refine AG_of ?_ ?_ <;> intro h) | (refine AB_of ?_ ?_ <;> intro h) | (refine A_draw_of [] [] (by kernel_rfl) ?_ <;> have h := mark)) <;> simp only [go_sem, seval, eq_self, reduceCtorEq, e1, t1, e4, ei, e5, g0, prgB, hcl, beq_self_eq_true, List.length_map, h])
    all_goals (first | refine fin_ret ?_ | refine fin_normal ?_)
    all_goals simp only [resOf, Try.results4, Try.ntmps4, go_sem, seval, eq_self, reduceCtorEq]
end Go.Proofs.Ytbmgaebhcomjaaa
