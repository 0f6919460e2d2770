/-
The reference's Cut by the plain reckoning. No condition.
-/
import Derived.Test.YtkfmecmmbnehjaaGreatBe
namespace Go.Proofs.YtkfmecmmbnehjaaGreat
set_option linter.unusedSimpArgs false
set_option linter.unusedVariables false

def rcutI (p : Prg) (s : S) : Prop :=
  s.env 1 = .ptr 1 1 0 ∧ s.st 1 = ⟨1, .box (prgB p)⟩ ∧ s.env 3 = .lst true 1 ((leadL p).map iv) ∧ 
  ∃ k : Nat, s.env 5 = .s (.int .i64 k) ∧ k ≤ (leadL p).length ∧ RowG (s.env 4) 70 (s.st 70) 6 24 ((cutF p k).map Blk4.v)
set_option maxRecDepth 4000 in
set_option maxHeartbeats 8000000 in
theorem rcut1_impl : Impl Tryz.prog 36 spCut1 := by
  refine impl_walk2 mixed cB3_ok eqT_ok Tryz.func36 rfl Tryz.ntmps36 (by kernel_rfl) ?_
  intro xs r h
  unfold spCut1 at h
  simp only at h
  (try split at h) <;> try (cases (show none = some r from h); done)
  rename_i x
  obtain ⟨p, hp, h3⟩ := Option.bind_eq_some_iff.1 h
  clear h
  refine ⟨_, (SeesL.cons (prgOf_sees hp) .nil).args, by simp, ?_⟩
  have hL := spLead_v p
  simp only [Prg.v] at hL
  cases c1 : rightP p
  · rw [c1] at hL h3
    simp only [Bool.false_eq_true, if_false] at hL
    cases h3
    simp only [go_sem, seval, eq_self, reduceCtorEq, Prg.v, cB3_at, spLead_mv, hL]
    repeat' ((first | (refine AG_of ?_ ?_ <;> intro h) | (refine AB_of ?_ ?_ <;> intro h) | (refine A_draw_of [] [] (by kernel_rfl) ?_ <;> have h := mark)) <;> simp only [go_sem, seval, eq_self, reduceCtorEq, Prg.v, cB3_at, spLead_mv, hL, h])
    refine A_round ?_
    simp only [go_sem, seval, eq_self, reduceCtorEq, hL]
    repeat' ((first | (refine AG_of ?_ ?_ <;> intro h) | (refine AB_of ?_ ?_ <;> intro h) | (refine A_draw_of [] [] (by kernel_rfl) ?_ <;> have h := mark)) <;> simp only [go_sem, seval, eq_self, reduceCtorEq, hL, h])
    all_goals (first | refine fin_ret ?_ | refine fin_normal ?_)
    all_goals simp only [resOf, Tryz.results36, Tryz.ntmps36, go_sem, seval, eq_self, reduceCtorEq]
    all_goals rfl
  rw [c1] at hL h3
  cases h3
  simp only [if_true] at hL
  rw [if_pos rfl]
  have hpl := right_len c1
  have hinc := leadL_inc p
  have hll := leadL_len p
  have hbd : ∀ x ∈ leadL p, 0 ≤ x ∧ x < p.code.length := fun x hx => lead_bd hx
  have htg := fun {n t : Nat} {i : Ins} (hi : p.code[n]? = some i) (hb : brB i = true) (ht : (n : Int) + i.imm = t) => lead_tgt c1 hi hb ht
  simp only [go_sem, seval, eq_self, reduceCtorEq, Prg.v, cB3_at, spLead_mv, hL, List.length_map]
  repeat' ((first | (refine AG_of ?_ ?_ <;> intro h) | (refine AB_of ?_ ?_ <;> intro h) | (refine A_draw_of [] [] (by kernel_rfl) ?_ <;> have h := mark)) <;> simp only [go_sem, seval, eq_self, reduceCtorEq, Prg.v, cB3_at, spLead_mv, hL, List.length_map, h])
  refine A_loop (rcutI p) (fun s => (leadL p).length - (numOf (s.env 5)).toNat) ?_ ?_
  · exact ⟨by simp [upd], by simp [upd, prgB, V.unfr, V.unfrL, V.cells], by simp [upd], 0, by simp [upd], by omega, .inl ⟨rfl, by simp [upd]⟩⟩
  intro s hs
  obtain ⟨e1, t1, e3, k, ek, hk, hr⟩ := hs
  have hcs := cutF_succ p k
  have hcl : (cutF p k).length = k := by simp [cutF]
  have hsc := scal_blk (cutF p k)
  unfold cutL
  have hlne := leadL_ne c1
  obtain ⟨l, hle⟩ : ∃ l, leadL p = l := ⟨_, rfl⟩
  rw [hle] at hk hcs hinc hll hbd htg hlne e3 ⊢
  rcases Nat.lt_or_ge k l.length with hlt | hge
  · obtain ⟨a, q⟩ : ∃ i, l[k]? = some i := ⟨l[k], List.getElem?_eq_getElem hlt⟩
    have g0 : decide ((k : Int) < l.length) = true := by simp; omega
    have z0 := Int.natCast_nonneg k
    have z1 := Int.natCast_nonneg (k + 1)
    have n2 : IntKind.i64.wrap ((k : Int) + 1) = (k + 1 : Nat) := by rw [w_i64 (by omega) (by omega)]; omega
    have hab := hbd a (List.mem_of_getElem? q)
    obtain ⟨O, hO⟩ : ∃ O, (cutF p k).map Blk4.v = O := ⟨_, rfl⟩
    have hOl : O.length = k := by rw [← hO, List.length_map, hcl]
    have fl : (k + 1) * 80 ≤ 140737488355328 := by omega
    rw [hO] at hr hsc
    have hcs2 : (cutF p (k + 1)).map Blk4.v = O ++ [(blkAt p l k).v] := by rw [hcs, List.map_append, hO]; rfl
    rcases Nat.lt_or_ge (k + 1) l.length with hn | hn
    · obtain ⟨b, qn⟩ : ∃ i, l[k + 1]? = some i := ⟨l[k + 1], List.getElem?_eq_getElem hn⟩
      have hbb0 := hbd b (List.mem_of_getElem? qn)
      have hlt2 := inc_get hinc q qn (by omega)
      obtain ⟨E, rfl⟩ : ∃ E : Nat, b = ((E + 1 : Nat) : Int) := ⟨(b - 1).toNat, by omega⟩
      have hto : toAt p l k = ((E + 1 : Nat) : Int) := by unfold toAt; rw [if_pos hn, List.getD_eq_getElem?_getD, qn]; rfl
      have hEt : ((E + 1 : Nat) : Int) = ((E + 1 : Nat) : Int) := rfl
      have gn0 : decide (((k + 1 : Nat) : Int) < l.length) = true := by simp; omega
      have wE : IntKind.i64.wrap (((E + 1 : Nat) : Int) - 1) = (E : Nat) := by rw [w_i64 (by omega) (by omega)]; omega
      have zE := Int.natCast_nonneg E
      have hfi := spIndexI_v (c := l) (by omega) ((E + 1 : Nat) : Int) false
      rw [idx_inc hinc qn] at hfi
      obtain ⟨x, qx⟩ : ∃ x, p.code[E]? = some x := ⟨p.code[E]'(by omega), List.getElem?_eq_getElem (by omega)⟩
      have hxr := (right_at c1 qx).1
      have hxb := (right_at c1 qx).2
      have hT := rtarget_v c1 qx
      simp only [Prg.v] at hT
      by_cases hf7 : form x.op = 7
      · have hf8 : ¬ form x.op = 8 := by omega
        have hb : brB x = true := by unfold brB; simp [hf7]
        have hf7b : (form x.op != 7) = false := by simp [hf7]
        have hf8b : (form x.op != 8) = true := by simp [hf8]
        have hbe := blkAt_eq q hto hEt qx
        obtain ⟨tn, htn⟩ : ∃ t : Nat, (E : Int) + x.imm = t := ⟨((E : Int) + x.imm).toNat, by have := hxb hb; omega⟩
        have hmem := htg qx hb htn
        have hS := spIndexI_v (c := l) (by omega) tn false
        have ztn := Int.natCast_nonneg tn
        have ztd : decide ((tn : Int) ≥ 0) = true := by simp
        rw [htn] at hT hbe
        rw [Int.toNat_natCast] at hbe
        simp only [hn, hb, hf7, hf8, and_true, and_false, true_and, false_and, ne_eq, not_true_eq_false, not_false_eq_true, if_true, if_false, Bool.false_eq_true] at hbe hT
        rw [hbe] at hcs2
        rcases hr with ⟨hl0, hx⟩ | ⟨hl0, v, hx, hbb⟩
        ·
          simp only [go_sem, seval, eq_self, reduceCtorEq, e1, t1, e3, ek, q, g0, z0, z1, n2, prgB, iv, Ins.v, cB3_at, spRTarget_mv, spIndexI_mv, op_jump2 hxr, op_halt2 hxr, spForm_mv, spForm_fn, List.length_map, List.getElem?_map, Int.toNat_natCast, bne_self_eq_false, hT, gn0, qn, qx, wE, zE, hS, ztn, ztd, hfi, hf7b, hf8b, hx]
          repeat' ((first | (refine AG_of ?_ ?_ <;> intro h) | (refine AB_of ?_ ?_ <;> intro h)) <;> simp only [go_sem, seval, eq_self, reduceCtorEq, e1, t1, e3, ek, q, g0, z0, z1, n2, prgB, iv, Ins.v, cB3_at, spRTarget_mv, spIndexI_mv, op_jump2 hxr, op_halt2 hxr, spForm_mv, spForm_fn, List.length_map, List.getElem?_map, Int.toNat_natCast, bne_self_eq_false, hT, gn0, qn, qx, wE, zE, hS, ztn, ztd, hfi, hf7b, hf8b, hx, h])
          refine A_draw_of [6] [6] (by kernel_rfl) ?_
          simp only [go_sem, seval, eq_self, reduceCtorEq, e1, t1, e3, ek, q, g0, z0, z1, n2, prgB, iv, Ins.v, cB3_at, spRTarget_mv, spIndexI_mv, op_jump2 hxr, op_halt2 hxr, spForm_mv, spForm_fn, List.length_map, List.getElem?_map, Int.toNat_natCast, bne_self_eq_false, hT, gn0, qn, qx, wE, zE, hS, ztn, ztd, hfi, hf7b, hf8b, hx]
          repeat' ((first | (refine AG_of ?_ ?_ <;> intro h) | (refine AB_of ?_ ?_ <;> intro h)) <;> simp only [go_sem, seval, eq_self, reduceCtorEq, e1, t1, e3, ek, q, g0, z0, z1, n2, prgB, iv, Ins.v, cB3_at, spRTarget_mv, spIndexI_mv, op_jump2 hxr, op_halt2 hxr, spForm_mv, spForm_fn, List.length_map, List.getElem?_map, Int.toNat_natCast, bne_self_eq_false, hT, gn0, qn, qx, wE, zE, hS, ztn, ztd, hfi, hf7b, hf8b, hx, h])
          exact ⟨⟨by simp [upd, e1], by simp [upd, t1, prgB], by simp [upd, e3, hle], k + 1, by simp [upd], by rw [hle]; omega, by rw [hcs2, hl0]; exact .inr ⟨by simp, (s.st 70).ver + 1, by simp [upd], by simp [upd, Blk4.v]⟩⟩, by simp [upd, numOf, ek]; omega⟩
        ·
          simp only [go_sem, seval, eq_self, reduceCtorEq, e1, t1, e3, ek, q, g0, z0, z1, n2, prgB, iv, Ins.v, cB3_at, spRTarget_mv, spIndexI_mv, op_jump2 hxr, op_halt2 hxr, spForm_mv, spForm_fn, List.length_map, List.getElem?_map, Int.toNat_natCast, bne_self_eq_false, hT, gn0, qn, qx, wE, zE, hS, ztn, ztd, hfi, hf7b, hf8b, hx, hbb, hOl, fl]
          repeat' ((first | (refine AG_of ?_ ?_ <;> intro h) | (refine AB_of ?_ ?_ <;> intro h)) <;> simp only [go_sem, seval, eq_self, reduceCtorEq, e1, t1, e3, ek, q, g0, z0, z1, n2, prgB, iv, Ins.v, cB3_at, spRTarget_mv, spIndexI_mv, op_jump2 hxr, op_halt2 hxr, spForm_mv, spForm_fn, List.length_map, List.getElem?_map, Int.toNat_natCast, bne_self_eq_false, hT, gn0, qn, qx, wE, zE, hS, ztn, ztd, hfi, hf7b, hf8b, hx, hbb, hOl, fl, h])
          refine A_draw_of [6] [6] (by kernel_rfl) ?_
          simp only [go_sem, seval, eq_self, reduceCtorEq, e1, t1, e3, ek, q, g0, z0, z1, n2, prgB, iv, Ins.v, cB3_at, spRTarget_mv, spIndexI_mv, op_jump2 hxr, op_halt2 hxr, spForm_mv, spForm_fn, List.length_map, List.getElem?_map, Int.toNat_natCast, bne_self_eq_false, hT, gn0, qn, qx, wE, zE, hS, ztn, ztd, hfi, hf7b, hf8b, hx, hbb, hOl, fl]
          repeat' ((first | (refine AG_of ?_ ?_ <;> intro h) | (refine AB_of ?_ ?_ <;> intro h)) <;> simp only [go_sem, seval, eq_self, reduceCtorEq, e1, t1, e3, ek, q, g0, z0, z1, n2, prgB, iv, Ins.v, cB3_at, spRTarget_mv, spIndexI_mv, op_jump2 hxr, op_halt2 hxr, spForm_mv, spForm_fn, List.length_map, List.getElem?_map, Int.toNat_natCast, bne_self_eq_false, hT, gn0, qn, qx, wE, zE, hS, ztn, ztd, hfi, hf7b, hf8b, hx, hbb, hOl, fl, h])
          exact ⟨⟨by simp [upd, e1], by simp [upd, t1, prgB], by simp [upd, e3, hle], k + 1, by simp [upd], by rw [hle]; omega, by rw [hcs2]; exact .inr ⟨by simp, v + 1, by simp [upd, hOl], by simp [upd, Blk4.v]⟩⟩, by simp [upd, numOf, ek]; omega⟩
      by_cases hf8 : form x.op = 8
      · have hb : brB x = false := by unfold brB; simp [hf8]
        have hf7b : (form x.op != 7) = true := by simp [hf7]
        have hf8b : (form x.op != 8) = false := by simp [hf8]
        have hbe := blkAt_eq q hto hEt qx
        simp only [hn, hb, hf7, hf8, and_true, and_false, true_and, false_and, ne_eq, not_true_eq_false, not_false_eq_true, if_true, if_false, Bool.false_eq_true] at hbe hT
        rw [hbe] at hcs2
        rcases hr with ⟨hl0, hx⟩ | ⟨hl0, v, hx, hbb⟩
        ·
          simp only [go_sem, seval, eq_self, reduceCtorEq, e1, t1, e3, ek, q, g0, z0, z1, n2, prgB, iv, Ins.v, cB3_at, spRTarget_mv, spIndexI_mv, op_jump2 hxr, op_halt2 hxr, spForm_mv, spForm_fn, List.length_map, List.getElem?_map, Int.toNat_natCast, bne_self_eq_false, hT, gn0, qn, qx, wE, zE, hfi, hf7b, hf8b, hx]
          repeat' ((first | (refine AG_of ?_ ?_ <;> intro h) | (refine AB_of ?_ ?_ <;> intro h)) <;> simp only [go_sem, seval, eq_self, reduceCtorEq, e1, t1, e3, ek, q, g0, z0, z1, n2, prgB, iv, Ins.v, cB3_at, spRTarget_mv, spIndexI_mv, op_jump2 hxr, op_halt2 hxr, spForm_mv, spForm_fn, List.length_map, List.getElem?_map, Int.toNat_natCast, bne_self_eq_false, hT, gn0, qn, qx, wE, zE, hfi, hf7b, hf8b, hx, h])
          refine A_draw_of [6] [6] (by kernel_rfl) ?_
          simp only [go_sem, seval, eq_self, reduceCtorEq, e1, t1, e3, ek, q, g0, z0, z1, n2, prgB, iv, Ins.v, cB3_at, spRTarget_mv, spIndexI_mv, op_jump2 hxr, op_halt2 hxr, spForm_mv, spForm_fn, List.length_map, List.getElem?_map, Int.toNat_natCast, bne_self_eq_false, hT, gn0, qn, qx, wE, zE, hfi, hf7b, hf8b, hx]
          repeat' ((first | (refine AG_of ?_ ?_ <;> intro h) | (refine AB_of ?_ ?_ <;> intro h)) <;> simp only [go_sem, seval, eq_self, reduceCtorEq, e1, t1, e3, ek, q, g0, z0, z1, n2, prgB, iv, Ins.v, cB3_at, spRTarget_mv, spIndexI_mv, op_jump2 hxr, op_halt2 hxr, spForm_mv, spForm_fn, List.length_map, List.getElem?_map, Int.toNat_natCast, bne_self_eq_false, hT, gn0, qn, qx, wE, zE, hfi, hf7b, hf8b, hx, h])
          exact ⟨⟨by simp [upd, e1], by simp [upd, t1, prgB], by simp [upd, e3, hle], k + 1, by simp [upd], by rw [hle]; omega, by rw [hcs2, hl0]; exact .inr ⟨by simp, (s.st 70).ver + 1, by simp [upd], by simp [upd, Blk4.v]⟩⟩, by simp [upd, numOf, ek]; omega⟩
        ·
          simp only [go_sem, seval, eq_self, reduceCtorEq, e1, t1, e3, ek, q, g0, z0, z1, n2, prgB, iv, Ins.v, cB3_at, spRTarget_mv, spIndexI_mv, op_jump2 hxr, op_halt2 hxr, spForm_mv, spForm_fn, List.length_map, List.getElem?_map, Int.toNat_natCast, bne_self_eq_false, hT, gn0, qn, qx, wE, zE, hfi, hf7b, hf8b, hx, hbb, hOl, fl]
          repeat' ((first | (refine AG_of ?_ ?_ <;> intro h) | (refine AB_of ?_ ?_ <;> intro h)) <;> simp only [go_sem, seval, eq_self, reduceCtorEq, e1, t1, e3, ek, q, g0, z0, z1, n2, prgB, iv, Ins.v, cB3_at, spRTarget_mv, spIndexI_mv, op_jump2 hxr, op_halt2 hxr, spForm_mv, spForm_fn, List.length_map, List.getElem?_map, Int.toNat_natCast, bne_self_eq_false, hT, gn0, qn, qx, wE, zE, hfi, hf7b, hf8b, hx, hbb, hOl, fl, h])
          refine A_draw_of [6] [6] (by kernel_rfl) ?_
          simp only [go_sem, seval, eq_self, reduceCtorEq, e1, t1, e3, ek, q, g0, z0, z1, n2, prgB, iv, Ins.v, cB3_at, spRTarget_mv, spIndexI_mv, op_jump2 hxr, op_halt2 hxr, spForm_mv, spForm_fn, List.length_map, List.getElem?_map, Int.toNat_natCast, bne_self_eq_false, hT, gn0, qn, qx, wE, zE, hfi, hf7b, hf8b, hx, hbb, hOl, fl]
          repeat' ((first | (refine AG_of ?_ ?_ <;> intro h) | (refine AB_of ?_ ?_ <;> intro h)) <;> simp only [go_sem, seval, eq_self, reduceCtorEq, e1, t1, e3, ek, q, g0, z0, z1, n2, prgB, iv, Ins.v, cB3_at, spRTarget_mv, spIndexI_mv, op_jump2 hxr, op_halt2 hxr, spForm_mv, spForm_fn, List.length_map, List.getElem?_map, Int.toNat_natCast, bne_self_eq_false, hT, gn0, qn, qx, wE, zE, hfi, hf7b, hf8b, hx, hbb, hOl, fl, h])
          exact ⟨⟨by simp [upd, e1], by simp [upd, t1, prgB], by simp [upd, e3, hle], k + 1, by simp [upd], by rw [hle]; omega, by rw [hcs2]; exact .inr ⟨by simp, v + 1, by simp [upd, hOl], by simp [upd, Blk4.v]⟩⟩, by simp [upd, numOf, ek]; omega⟩
      have hf7b : (form x.op != 7) = true := by simp [hf7]
      have hf8b : (form x.op != 8) = true := by simp [hf8]
      cases hb : brB x
      ·
        have hbe := blkAt_eq q hto hEt qx
        simp only [hn, hb, hf7, hf8, and_true, and_false, true_and, false_and, ne_eq, not_true_eq_false, not_false_eq_true, if_true, if_false, Bool.false_eq_true] at hbe hT
        rw [hbe] at hcs2
        rcases hr with ⟨hl0, hx⟩ | ⟨hl0, v, hx, hbb⟩
        ·
          simp only [go_sem, seval, eq_self, reduceCtorEq, e1, t1, e3, ek, q, g0, z0, z1, n2, prgB, iv, Ins.v, cB3_at, spRTarget_mv, spIndexI_mv, op_jump2 hxr, op_halt2 hxr, spForm_mv, spForm_fn, List.length_map, List.getElem?_map, Int.toNat_natCast, bne_self_eq_false, hT, gn0, qn, qx, wE, zE, hfi, hf7b, hf8b, hx]
          repeat' ((first | (refine AG_of ?_ ?_ <;> intro h) | (refine AB_of ?_ ?_ <;> intro h)) <;> simp only [go_sem, seval, eq_self, reduceCtorEq, e1, t1, e3, ek, q, g0, z0, z1, n2, prgB, iv, Ins.v, cB3_at, spRTarget_mv, spIndexI_mv, op_jump2 hxr, op_halt2 hxr, spForm_mv, spForm_fn, List.length_map, List.getElem?_map, Int.toNat_natCast, bne_self_eq_false, hT, gn0, qn, qx, wE, zE, hfi, hf7b, hf8b, hx, h])
          refine A_draw_of [6] [6] (by kernel_rfl) ?_
          simp only [go_sem, seval, eq_self, reduceCtorEq, e1, t1, e3, ek, q, g0, z0, z1, n2, prgB, iv, Ins.v, cB3_at, spRTarget_mv, spIndexI_mv, op_jump2 hxr, op_halt2 hxr, spForm_mv, spForm_fn, List.length_map, List.getElem?_map, Int.toNat_natCast, bne_self_eq_false, hT, gn0, qn, qx, wE, zE, hfi, hf7b, hf8b, hx]
          repeat' ((first | (refine AG_of ?_ ?_ <;> intro h) | (refine AB_of ?_ ?_ <;> intro h)) <;> simp only [go_sem, seval, eq_self, reduceCtorEq, e1, t1, e3, ek, q, g0, z0, z1, n2, prgB, iv, Ins.v, cB3_at, spRTarget_mv, spIndexI_mv, op_jump2 hxr, op_halt2 hxr, spForm_mv, spForm_fn, List.length_map, List.getElem?_map, Int.toNat_natCast, bne_self_eq_false, hT, gn0, qn, qx, wE, zE, hfi, hf7b, hf8b, hx, h])
          exact ⟨⟨by simp [upd, e1], by simp [upd, t1, prgB], by simp [upd, e3, hle], k + 1, by simp [upd], by rw [hle]; omega, by rw [hcs2, hl0]; exact .inr ⟨by simp, (s.st 70).ver + 1, by simp [upd], by simp [upd, Blk4.v]⟩⟩, by simp [upd, numOf, ek]; omega⟩
        ·
          simp only [go_sem, seval, eq_self, reduceCtorEq, e1, t1, e3, ek, q, g0, z0, z1, n2, prgB, iv, Ins.v, cB3_at, spRTarget_mv, spIndexI_mv, op_jump2 hxr, op_halt2 hxr, spForm_mv, spForm_fn, List.length_map, List.getElem?_map, Int.toNat_natCast, bne_self_eq_false, hT, gn0, qn, qx, wE, zE, hfi, hf7b, hf8b, hx, hbb, hOl, fl]
          repeat' ((first | (refine AG_of ?_ ?_ <;> intro h) | (refine AB_of ?_ ?_ <;> intro h)) <;> simp only [go_sem, seval, eq_self, reduceCtorEq, e1, t1, e3, ek, q, g0, z0, z1, n2, prgB, iv, Ins.v, cB3_at, spRTarget_mv, spIndexI_mv, op_jump2 hxr, op_halt2 hxr, spForm_mv, spForm_fn, List.length_map, List.getElem?_map, Int.toNat_natCast, bne_self_eq_false, hT, gn0, qn, qx, wE, zE, hfi, hf7b, hf8b, hx, hbb, hOl, fl, h])
          refine A_draw_of [6] [6] (by kernel_rfl) ?_
          simp only [go_sem, seval, eq_self, reduceCtorEq, e1, t1, e3, ek, q, g0, z0, z1, n2, prgB, iv, Ins.v, cB3_at, spRTarget_mv, spIndexI_mv, op_jump2 hxr, op_halt2 hxr, spForm_mv, spForm_fn, List.length_map, List.getElem?_map, Int.toNat_natCast, bne_self_eq_false, hT, gn0, qn, qx, wE, zE, hfi, hf7b, hf8b, hx, hbb, hOl, fl]
          repeat' ((first | (refine AG_of ?_ ?_ <;> intro h) | (refine AB_of ?_ ?_ <;> intro h)) <;> simp only [go_sem, seval, eq_self, reduceCtorEq, e1, t1, e3, ek, q, g0, z0, z1, n2, prgB, iv, Ins.v, cB3_at, spRTarget_mv, spIndexI_mv, op_jump2 hxr, op_halt2 hxr, spForm_mv, spForm_fn, List.length_map, List.getElem?_map, Int.toNat_natCast, bne_self_eq_false, hT, gn0, qn, qx, wE, zE, hfi, hf7b, hf8b, hx, hbb, hOl, fl, h])
          exact ⟨⟨by simp [upd, e1], by simp [upd, t1, prgB], by simp [upd, e3, hle], k + 1, by simp [upd], by rw [hle]; omega, by rw [hcs2]; exact .inr ⟨by simp, v + 1, by simp [upd, hOl], by simp [upd, Blk4.v]⟩⟩, by simp [upd, numOf, ek]; omega⟩
      ·
        have hbe := blkAt_eq q hto hEt qx
        obtain ⟨tn, htn⟩ : ∃ t : Nat, (E : Int) + x.imm = t := ⟨((E : Int) + x.imm).toNat, by have := hxb hb; omega⟩
        have hmem := htg qx hb htn
        have hS := spIndexI_v (c := l) (by omega) tn false
        have ztn := Int.natCast_nonneg tn
        have ztd : decide ((tn : Int) ≥ 0) = true := by simp
        rw [htn] at hT hbe
        rw [Int.toNat_natCast] at hbe
        simp only [hn, hb, hf7, hf8, and_true, and_false, true_and, false_and, ne_eq, not_true_eq_false, not_false_eq_true, if_true, if_false, Bool.false_eq_true] at hbe hT
        rw [hbe] at hcs2
        rcases hr with ⟨hl0, hx⟩ | ⟨hl0, v, hx, hbb⟩
        ·
          simp only [go_sem, seval, eq_self, reduceCtorEq, e1, t1, e3, ek, q, g0, z0, z1, n2, prgB, iv, Ins.v, cB3_at, spRTarget_mv, spIndexI_mv, op_jump2 hxr, op_halt2 hxr, spForm_mv, spForm_fn, List.length_map, List.getElem?_map, Int.toNat_natCast, bne_self_eq_false, hT, gn0, qn, qx, wE, zE, hS, ztn, ztd, hfi, hf7b, hf8b, hx]
          repeat' ((first | (refine AG_of ?_ ?_ <;> intro h) | (refine AB_of ?_ ?_ <;> intro h)) <;> simp only [go_sem, seval, eq_self, reduceCtorEq, e1, t1, e3, ek, q, g0, z0, z1, n2, prgB, iv, Ins.v, cB3_at, spRTarget_mv, spIndexI_mv, op_jump2 hxr, op_halt2 hxr, spForm_mv, spForm_fn, List.length_map, List.getElem?_map, Int.toNat_natCast, bne_self_eq_false, hT, gn0, qn, qx, wE, zE, hS, ztn, ztd, hfi, hf7b, hf8b, hx, h])
          refine A_draw_of [6] [6] (by kernel_rfl) ?_
          simp only [go_sem, seval, eq_self, reduceCtorEq, e1, t1, e3, ek, q, g0, z0, z1, n2, prgB, iv, Ins.v, cB3_at, spRTarget_mv, spIndexI_mv, op_jump2 hxr, op_halt2 hxr, spForm_mv, spForm_fn, List.length_map, List.getElem?_map, Int.toNat_natCast, bne_self_eq_false, hT, gn0, qn, qx, wE, zE, hS, ztn, ztd, hfi, hf7b, hf8b, hx]
          repeat' ((first | (refine AG_of ?_ ?_ <;> intro h) | (refine AB_of ?_ ?_ <;> intro h)) <;> simp only [go_sem, seval, eq_self, reduceCtorEq, e1, t1, e3, ek, q, g0, z0, z1, n2, prgB, iv, Ins.v, cB3_at, spRTarget_mv, spIndexI_mv, op_jump2 hxr, op_halt2 hxr, spForm_mv, spForm_fn, List.length_map, List.getElem?_map, Int.toNat_natCast, bne_self_eq_false, hT, gn0, qn, qx, wE, zE, hS, ztn, ztd, hfi, hf7b, hf8b, hx, h])
          exact ⟨⟨by simp [upd, e1], by simp [upd, t1, prgB], by simp [upd, e3, hle], k + 1, by simp [upd], by rw [hle]; omega, by rw [hcs2, hl0]; exact .inr ⟨by simp, (s.st 70).ver + 1, by simp [upd], by simp [upd, Blk4.v]⟩⟩, by simp [upd, numOf, ek]; omega⟩
        ·
          simp only [go_sem, seval, eq_self, reduceCtorEq, e1, t1, e3, ek, q, g0, z0, z1, n2, prgB, iv, Ins.v, cB3_at, spRTarget_mv, spIndexI_mv, op_jump2 hxr, op_halt2 hxr, spForm_mv, spForm_fn, List.length_map, List.getElem?_map, Int.toNat_natCast, bne_self_eq_false, hT, gn0, qn, qx, wE, zE, hS, ztn, ztd, hfi, hf7b, hf8b, hx, hbb, hOl, fl]
          repeat' ((first | (refine AG_of ?_ ?_ <;> intro h) | (refine AB_of ?_ ?_ <;> intro h)) <;> simp only [go_sem, seval, eq_self, reduceCtorEq, e1, t1, e3, ek, q, g0, z0, z1, n2, prgB, iv, Ins.v, cB3_at, spRTarget_mv, spIndexI_mv, op_jump2 hxr, op_halt2 hxr, spForm_mv, spForm_fn, List.length_map, List.getElem?_map, Int.toNat_natCast, bne_self_eq_false, hT, gn0, qn, qx, wE, zE, hS, ztn, ztd, hfi, hf7b, hf8b, hx, hbb, hOl, fl, h])
          refine A_draw_of [6] [6] (by kernel_rfl) ?_
          simp only [go_sem, seval, eq_self, reduceCtorEq, e1, t1, e3, ek, q, g0, z0, z1, n2, prgB, iv, Ins.v, cB3_at, spRTarget_mv, spIndexI_mv, op_jump2 hxr, op_halt2 hxr, spForm_mv, spForm_fn, List.length_map, List.getElem?_map, Int.toNat_natCast, bne_self_eq_false, hT, gn0, qn, qx, wE, zE, hS, ztn, ztd, hfi, hf7b, hf8b, hx, hbb, hOl, fl]
          repeat' ((first | (refine AG_of ?_ ?_ <;> intro h) | (refine AB_of ?_ ?_ <;> intro h)) <;> simp only [go_sem, seval, eq_self, reduceCtorEq, e1, t1, e3, ek, q, g0, z0, z1, n2, prgB, iv, Ins.v, cB3_at, spRTarget_mv, spIndexI_mv, op_jump2 hxr, op_halt2 hxr, spForm_mv, spForm_fn, List.length_map, List.getElem?_map, Int.toNat_natCast, bne_self_eq_false, hT, gn0, qn, qx, wE, zE, hS, ztn, ztd, hfi, hf7b, hf8b, hx, hbb, hOl, fl, h])
          exact ⟨⟨by simp [upd, e1], by simp [upd, t1, prgB], by simp [upd, e3, hle], k + 1, by simp [upd], by rw [hle]; omega, by rw [hcs2]; exact .inr ⟨by simp, v + 1, by simp [upd, hOl], by simp [upd, Blk4.v]⟩⟩, by simp [upd, numOf, ek]; omega⟩
    · have hn' : ¬ k + 1 < l.length := by omega
      obtain ⟨E, hEt⟩ : ∃ E : Nat, (p.code.length : Int) = ((E + 1 : Nat) : Int) := ⟨p.code.length - 1, by omega⟩
      have hto : toAt p l k = (p.code.length : Int) := by unfold toAt; rw [if_neg hn']
      have gn0 : decide (((k + 1 : Nat) : Int) < l.length) = false := by simp; omega
      have wE : IntKind.i64.wrap ((p.code.length : Int) - 1) = (E : Nat) := by rw [w_i64 (by omega) (by omega)]; omega
      have zE := Int.natCast_nonneg E
      have hfi := spIndexI_v (c := l) (by omega) (p.code.length : Int) false
      rw [idxL_none _ l 0 (fun hm => by have := hbd _ hm; omega)] at hfi
      obtain ⟨x, qx⟩ : ∃ x, p.code[E]? = some x := ⟨p.code[E]'(by omega), List.getElem?_eq_getElem (by omega)⟩
      have hxr := (right_at c1 qx).1
      have hxb := (right_at c1 qx).2
      have hT := rtarget_v c1 qx
      simp only [Prg.v] at hT
      by_cases hf7 : form x.op = 7
      · have hf8 : ¬ form x.op = 8 := by omega
        have hb : brB x = true := by unfold brB; simp [hf7]
        have hf7b : (form x.op != 7) = false := by simp [hf7]
        have hf8b : (form x.op != 8) = true := by simp [hf8]
        have hbe := blkAt_eq q hto hEt qx
        obtain ⟨tn, htn⟩ : ∃ t : Nat, (E : Int) + x.imm = t := ⟨((E : Int) + x.imm).toNat, by have := hxb hb; omega⟩
        have hmem := htg qx hb htn
        have hS := spIndexI_v (c := l) (by omega) tn false
        have ztn := Int.natCast_nonneg tn
        have ztd : decide ((tn : Int) ≥ 0) = true := by simp
        rw [htn] at hT hbe
        rw [Int.toNat_natCast] at hbe
        simp only [hn', hb, hf7, hf8, and_true, and_false, true_and, false_and, ne_eq, not_true_eq_false, not_false_eq_true, if_true, if_false, Bool.false_eq_true] at hbe hT
        rw [hbe] at hcs2
        rcases hr with ⟨hl0, hx⟩ | ⟨hl0, v, hx, hbb⟩
        ·
          simp only [go_sem, seval, eq_self, reduceCtorEq, e1, t1, e3, ek, q, g0, z0, z1, n2, prgB, iv, Ins.v, cB3_at, spRTarget_mv, spIndexI_mv, op_jump2 hxr, op_halt2 hxr, spForm_mv, spForm_fn, List.length_map, List.getElem?_map, Int.toNat_natCast, bne_self_eq_false, hT, gn0, qx, wE, zE, hS, ztn, ztd, hfi, hf7b, hf8b, hx]
          repeat' ((first | (refine AG_of ?_ ?_ <;> intro h) | (refine AB_of ?_ ?_ <;> intro h)) <;> simp only [go_sem, seval, eq_self, reduceCtorEq, e1, t1, e3, ek, q, g0, z0, z1, n2, prgB, iv, Ins.v, cB3_at, spRTarget_mv, spIndexI_mv, op_jump2 hxr, op_halt2 hxr, spForm_mv, spForm_fn, List.length_map, List.getElem?_map, Int.toNat_natCast, bne_self_eq_false, hT, gn0, qx, wE, zE, hS, ztn, ztd, hfi, hf7b, hf8b, hx, h])
          refine A_draw_of [6] [6] (by kernel_rfl) ?_
          simp only [go_sem, seval, eq_self, reduceCtorEq, e1, t1, e3, ek, q, g0, z0, z1, n2, prgB, iv, Ins.v, cB3_at, spRTarget_mv, spIndexI_mv, op_jump2 hxr, op_halt2 hxr, spForm_mv, spForm_fn, List.length_map, List.getElem?_map, Int.toNat_natCast, bne_self_eq_false, hT, gn0, qx, wE, zE, hS, ztn, ztd, hfi, hf7b, hf8b, hx]
          repeat' ((first | (refine AG_of ?_ ?_ <;> intro h) | (refine AB_of ?_ ?_ <;> intro h)) <;> simp only [go_sem, seval, eq_self, reduceCtorEq, e1, t1, e3, ek, q, g0, z0, z1, n2, prgB, iv, Ins.v, cB3_at, spRTarget_mv, spIndexI_mv, op_jump2 hxr, op_halt2 hxr, spForm_mv, spForm_fn, List.length_map, List.getElem?_map, Int.toNat_natCast, bne_self_eq_false, hT, gn0, qx, wE, zE, hS, ztn, ztd, hfi, hf7b, hf8b, hx, h])
          exact ⟨⟨by simp [upd, e1], by simp [upd, t1, prgB], by simp [upd, e3, hle], k + 1, by simp [upd], by rw [hle]; omega, by rw [hcs2, hl0]; exact .inr ⟨by simp, (s.st 70).ver + 1, by simp [upd], by simp [upd, Blk4.v]⟩⟩, by simp [upd, numOf, ek]; omega⟩
        ·
          simp only [go_sem, seval, eq_self, reduceCtorEq, e1, t1, e3, ek, q, g0, z0, z1, n2, prgB, iv, Ins.v, cB3_at, spRTarget_mv, spIndexI_mv, op_jump2 hxr, op_halt2 hxr, spForm_mv, spForm_fn, List.length_map, List.getElem?_map, Int.toNat_natCast, bne_self_eq_false, hT, gn0, qx, wE, zE, hS, ztn, ztd, hfi, hf7b, hf8b, hx, hbb, hOl, fl]
          repeat' ((first | (refine AG_of ?_ ?_ <;> intro h) | (refine AB_of ?_ ?_ <;> intro h)) <;> simp only [go_sem, seval, eq_self, reduceCtorEq, e1, t1, e3, ek, q, g0, z0, z1, n2, prgB, iv, Ins.v, cB3_at, spRTarget_mv, spIndexI_mv, op_jump2 hxr, op_halt2 hxr, spForm_mv, spForm_fn, List.length_map, List.getElem?_map, Int.toNat_natCast, bne_self_eq_false, hT, gn0, qx, wE, zE, hS, ztn, ztd, hfi, hf7b, hf8b, hx, hbb, hOl, fl, h])
          refine A_draw_of [6] [6] (by kernel_rfl) ?_
          simp only [go_sem, seval, eq_self, reduceCtorEq, e1, t1, e3, ek, q, g0, z0, z1, n2, prgB, iv, Ins.v, cB3_at, spRTarget_mv, spIndexI_mv, op_jump2 hxr, op_halt2 hxr, spForm_mv, spForm_fn, List.length_map, List.getElem?_map, Int.toNat_natCast, bne_self_eq_false, hT, gn0, qx, wE, zE, hS, ztn, ztd, hfi, hf7b, hf8b, hx, hbb, hOl, fl]
          repeat' ((first | (refine AG_of ?_ ?_ <;> intro h) | (refine AB_of ?_ ?_ <;> intro h)) <;> simp only [go_sem, seval, eq_self, reduceCtorEq, e1, t1, e3, ek, q, g0, z0, z1, n2, prgB, iv, Ins.v, cB3_at, spRTarget_mv, spIndexI_mv, op_jump2 hxr, op_halt2 hxr, spForm_mv, spForm_fn, List.length_map, List.getElem?_map, Int.toNat_natCast, bne_self_eq_false, hT, gn0, qx, wE, zE, hS, ztn, ztd, hfi, hf7b, hf8b, hx, hbb, hOl, fl, h])
          exact ⟨⟨by simp [upd, e1], by simp [upd, t1, prgB], by simp [upd, e3, hle], k + 1, by simp [upd], by rw [hle]; omega, by rw [hcs2]; exact .inr ⟨by simp, v + 1, by simp [upd, hOl], by simp [upd, Blk4.v]⟩⟩, by simp [upd, numOf, ek]; omega⟩
      by_cases hf8 : form x.op = 8
      · have hb : brB x = false := by unfold brB; simp [hf8]
        have hf7b : (form x.op != 7) = true := by simp [hf7]
        have hf8b : (form x.op != 8) = false := by simp [hf8]
        have hbe := blkAt_eq q hto hEt qx
        simp only [hn', hb, hf7, hf8, and_true, and_false, true_and, false_and, ne_eq, not_true_eq_false, not_false_eq_true, if_true, if_false, Bool.false_eq_true] at hbe hT
        rw [hbe] at hcs2
        rcases hr with ⟨hl0, hx⟩ | ⟨hl0, v, hx, hbb⟩
        ·
          simp only [go_sem, seval, eq_self, reduceCtorEq, e1, t1, e3, ek, q, g0, z0, z1, n2, prgB, iv, Ins.v, cB3_at, spRTarget_mv, spIndexI_mv, op_jump2 hxr, op_halt2 hxr, spForm_mv, spForm_fn, List.length_map, List.getElem?_map, Int.toNat_natCast, bne_self_eq_false, hT, gn0, qx, wE, zE, hfi, hf7b, hf8b, hx]
          repeat' ((first | (refine AG_of ?_ ?_ <;> intro h) | (refine AB_of ?_ ?_ <;> intro h)) <;> simp only [go_sem, seval, eq_self, reduceCtorEq, e1, t1, e3, ek, q, g0, z0, z1, n2, prgB, iv, Ins.v, cB3_at, spRTarget_mv, spIndexI_mv, op_jump2 hxr, op_halt2 hxr, spForm_mv, spForm_fn, List.length_map, List.getElem?_map, Int.toNat_natCast, bne_self_eq_false, hT, gn0, qx, wE, zE, hfi, hf7b, hf8b, hx, h])
          refine A_draw_of [6] [6] (by kernel_rfl) ?_
          simp only [go_sem, seval, eq_self, reduceCtorEq, e1, t1, e3, ek, q, g0, z0, z1, n2, prgB, iv, Ins.v, cB3_at, spRTarget_mv, spIndexI_mv, op_jump2 hxr, op_halt2 hxr, spForm_mv, spForm_fn, List.length_map, List.getElem?_map, Int.toNat_natCast, bne_self_eq_false, hT, gn0, qx, wE, zE, hfi, hf7b, hf8b, hx]
          repeat' ((first | (refine AG_of ?_ ?_ <;> intro h) | (refine AB_of ?_ ?_ <;> intro h)) <;> simp only [go_sem, seval, eq_self, reduceCtorEq, e1, t1, e3, ek, q, g0, z0, z1, n2, prgB, iv, Ins.v, cB3_at, spRTarget_mv, spIndexI_mv, op_jump2 hxr, op_halt2 hxr, spForm_mv, spForm_fn, List.length_map, List.getElem?_map, Int.toNat_natCast, bne_self_eq_false, hT, gn0, qx, wE, zE, hfi, hf7b, hf8b, hx, h])
          exact ⟨⟨by simp [upd, e1], by simp [upd, t1, prgB], by simp [upd, e3, hle], k + 1, by simp [upd], by rw [hle]; omega, by rw [hcs2, hl0]; exact .inr ⟨by simp, (s.st 70).ver + 1, by simp [upd], by simp [upd, Blk4.v]⟩⟩, by simp [upd, numOf, ek]; omega⟩
        ·
          simp only [go_sem, seval, eq_self, reduceCtorEq, e1, t1, e3, ek, q, g0, z0, z1, n2, prgB, iv, Ins.v, cB3_at, spRTarget_mv, spIndexI_mv, op_jump2 hxr, op_halt2 hxr, spForm_mv, spForm_fn, List.length_map, List.getElem?_map, Int.toNat_natCast, bne_self_eq_false, hT, gn0, qx, wE, zE, hfi, hf7b, hf8b, hx, hbb, hOl, fl]
          repeat' ((first | (refine AG_of ?_ ?_ <;> intro h) | (refine AB_of ?_ ?_ <;> intro h)) <;> simp only [go_sem, seval, eq_self, reduceCtorEq, e1, t1, e3, ek, q, g0, z0, z1, n2, prgB, iv, Ins.v, cB3_at, spRTarget_mv, spIndexI_mv, op_jump2 hxr, op_halt2 hxr, spForm_mv, spForm_fn, List.length_map, List.getElem?_map, Int.toNat_natCast, bne_self_eq_false, hT, gn0, qx, wE, zE, hfi, hf7b, hf8b, hx, hbb, hOl, fl, h])
          refine A_draw_of [6] [6] (by kernel_rfl) ?_
          simp only [go_sem, seval, eq_self, reduceCtorEq, e1, t1, e3, ek, q, g0, z0, z1, n2, prgB, iv, Ins.v, cB3_at, spRTarget_mv, spIndexI_mv, op_jump2 hxr, op_halt2 hxr, spForm_mv, spForm_fn, List.length_map, List.getElem?_map, Int.toNat_natCast, bne_self_eq_false, hT, gn0, qx, wE, zE, hfi, hf7b, hf8b, hx, hbb, hOl, fl]
          repeat' ((first | (refine AG_of ?_ ?_ <;> intro h) | (refine AB_of ?_ ?_ <;> intro h)) <;> simp only [go_sem, seval, eq_self, reduceCtorEq, e1, t1, e3, ek, q, g0, z0, z1, n2, prgB, iv, Ins.v, cB3_at, spRTarget_mv, spIndexI_mv, op_jump2 hxr, op_halt2 hxr, spForm_mv, spForm_fn, List.length_map, List.getElem?_map, Int.toNat_natCast, bne_self_eq_false, hT, gn0, qx, wE, zE, hfi, hf7b, hf8b, hx, hbb, hOl, fl, h])
          exact ⟨⟨by simp [upd, e1], by simp [upd, t1, prgB], by simp [upd, e3, hle], k + 1, by simp [upd], by rw [hle]; omega, by rw [hcs2]; exact .inr ⟨by simp, v + 1, by simp [upd, hOl], by simp [upd, Blk4.v]⟩⟩, by simp [upd, numOf, ek]; omega⟩
      have hf7b : (form x.op != 7) = true := by simp [hf7]
      have hf8b : (form x.op != 8) = true := by simp [hf8]
      cases hb : brB x
      ·
        have hbe := blkAt_eq q hto hEt qx
        simp only [hn', hb, hf7, hf8, and_true, and_false, true_and, false_and, ne_eq, not_true_eq_false, not_false_eq_true, if_true, if_false, Bool.false_eq_true] at hbe hT
        rw [hbe] at hcs2
        rcases hr with ⟨hl0, hx⟩ | ⟨hl0, v, hx, hbb⟩
        ·
          simp only [go_sem, seval, eq_self, reduceCtorEq, e1, t1, e3, ek, q, g0, z0, z1, n2, prgB, iv, Ins.v, cB3_at, spRTarget_mv, spIndexI_mv, op_jump2 hxr, op_halt2 hxr, spForm_mv, spForm_fn, List.length_map, List.getElem?_map, Int.toNat_natCast, bne_self_eq_false, hT, gn0, qx, wE, zE, hfi, hf7b, hf8b, hx]
          repeat' ((first | (refine AG_of ?_ ?_ <;> intro h) | (refine AB_of ?_ ?_ <;> intro h)) <;> simp only [go_sem, seval, eq_self, reduceCtorEq, e1, t1, e3, ek, q, g0, z0, z1, n2, prgB, iv, Ins.v, cB3_at, spRTarget_mv, spIndexI_mv, op_jump2 hxr, op_halt2 hxr, spForm_mv, spForm_fn, List.length_map, List.getElem?_map, Int.toNat_natCast, bne_self_eq_false, hT, gn0, qx, wE, zE, hfi, hf7b, hf8b, hx, h])
          refine A_draw_of [6] [6] (by kernel_rfl) ?_
          simp only [go_sem, seval, eq_self, reduceCtorEq, e1, t1, e3, ek, q, g0, z0, z1, n2, prgB, iv, Ins.v, cB3_at, spRTarget_mv, spIndexI_mv, op_jump2 hxr, op_halt2 hxr, spForm_mv, spForm_fn, List.length_map, List.getElem?_map, Int.toNat_natCast, bne_self_eq_false, hT, gn0, qx, wE, zE, hfi, hf7b, hf8b, hx]
          repeat' ((first | (refine AG_of ?_ ?_ <;> intro h) | (refine AB_of ?_ ?_ <;> intro h)) <;> simp only [go_sem, seval, eq_self, reduceCtorEq, e1, t1, e3, ek, q, g0, z0, z1, n2, prgB, iv, Ins.v, cB3_at, spRTarget_mv, spIndexI_mv, op_jump2 hxr, op_halt2 hxr, spForm_mv, spForm_fn, List.length_map, List.getElem?_map, Int.toNat_natCast, bne_self_eq_false, hT, gn0, qx, wE, zE, hfi, hf7b, hf8b, hx, h])
          exact ⟨⟨by simp [upd, e1], by simp [upd, t1, prgB], by simp [upd, e3, hle], k + 1, by simp [upd], by rw [hle]; omega, by rw [hcs2, hl0]; exact .inr ⟨by simp, (s.st 70).ver + 1, by simp [upd], by simp [upd, Blk4.v]⟩⟩, by simp [upd, numOf, ek]; omega⟩
        ·
          simp only [go_sem, seval, eq_self, reduceCtorEq, e1, t1, e3, ek, q, g0, z0, z1, n2, prgB, iv, Ins.v, cB3_at, spRTarget_mv, spIndexI_mv, op_jump2 hxr, op_halt2 hxr, spForm_mv, spForm_fn, List.length_map, List.getElem?_map, Int.toNat_natCast, bne_self_eq_false, hT, gn0, qx, wE, zE, hfi, hf7b, hf8b, hx, hbb, hOl, fl]
          repeat' ((first | (refine AG_of ?_ ?_ <;> intro h) | (refine AB_of ?_ ?_ <;> intro h)) <;> simp only [go_sem, seval, eq_self, reduceCtorEq, e1, t1, e3, ek, q, g0, z0, z1, n2, prgB, iv, Ins.v, cB3_at, spRTarget_mv, spIndexI_mv, op_jump2 hxr, op_halt2 hxr, spForm_mv, spForm_fn, List.length_map, List.getElem?_map, Int.toNat_natCast, bne_self_eq_false, hT, gn0, qx, wE, zE, hfi, hf7b, hf8b, hx, hbb, hOl, fl, h])
          refine A_draw_of [6] [6] (by kernel_rfl) ?_
          simp only [go_sem, seval, eq_self, reduceCtorEq, e1, t1, e3, ek, q, g0, z0, z1, n2, prgB, iv, Ins.v, cB3_at, spRTarget_mv, spIndexI_mv, op_jump2 hxr, op_halt2 hxr, spForm_mv, spForm_fn, List.length_map, List.getElem?_map, Int.toNat_natCast, bne_self_eq_false, hT, gn0, qx, wE, zE, hfi, hf7b, hf8b, hx, hbb, hOl, fl]
          repeat' ((first | (refine AG_of ?_ ?_ <;> intro h) | (refine AB_of ?_ ?_ <;> intro h)) <;> simp only [go_sem, seval, eq_self, reduceCtorEq, e1, t1, e3, ek, q, g0, z0, z1, n2, prgB, iv, Ins.v, cB3_at, spRTarget_mv, spIndexI_mv, op_jump2 hxr, op_halt2 hxr, spForm_mv, spForm_fn, List.length_map, List.getElem?_map, Int.toNat_natCast, bne_self_eq_false, hT, gn0, qx, wE, zE, hfi, hf7b, hf8b, hx, hbb, hOl, fl, h])
          exact ⟨⟨by simp [upd, e1], by simp [upd, t1, prgB], by simp [upd, e3, hle], k + 1, by simp [upd], by rw [hle]; omega, by rw [hcs2]; exact .inr ⟨by simp, v + 1, by simp [upd, hOl], by simp [upd, Blk4.v]⟩⟩, by simp [upd, numOf, ek]; omega⟩
      ·
        have hbe := blkAt_eq q hto hEt qx
        obtain ⟨tn, htn⟩ : ∃ t : Nat, (E : Int) + x.imm = t := ⟨((E : Int) + x.imm).toNat, by have := hxb hb; omega⟩
        have hmem := htg qx hb htn
        have hS := spIndexI_v (c := l) (by omega) tn false
        have ztn := Int.natCast_nonneg tn
        have ztd : decide ((tn : Int) ≥ 0) = true := by simp
        rw [htn] at hT hbe
        rw [Int.toNat_natCast] at hbe
        simp only [hn', hb, hf7, hf8, and_true, and_false, true_and, false_and, ne_eq, not_true_eq_false, not_false_eq_true, if_true, if_false, Bool.false_eq_true] at hbe hT
        rw [hbe] at hcs2
        rcases hr with ⟨hl0, hx⟩ | ⟨hl0, v, hx, hbb⟩
        ·
          simp only [go_sem, seval, eq_self, reduceCtorEq, e1, t1, e3, ek, q, g0, z0, z1, n2, prgB, iv, Ins.v, cB3_at, spRTarget_mv, spIndexI_mv, op_jump2 hxr, op_halt2 hxr, spForm_mv, spForm_fn, List.length_map, List.getElem?_map, Int.toNat_natCast, bne_self_eq_false, hT, gn0, qx, wE, zE, hS, ztn, ztd, hfi, hf7b, hf8b, hx]
          repeat' ((first | (refine AG_of ?_ ?_ <;> intro h) | (refine AB_of ?_ ?_ <;> intro h)) <;> simp only [go_sem, seval, eq_self, reduceCtorEq, e1, t1, e3, ek, q, g0, z0, z1, n2, prgB, iv, Ins.v, cB3_at, spRTarget_mv, spIndexI_mv, op_jump2 hxr, op_halt2 hxr, spForm_mv, spForm_fn, List.length_map, List.getElem?_map, Int.toNat_natCast, bne_self_eq_false, hT, gn0, qx, wE, zE, hS, ztn, ztd, hfi, hf7b, hf8b, hx, h])
          refine A_draw_of [6] [6] (by kernel_rfl) ?_
          simp only [go_sem, seval, eq_self, reduceCtorEq, e1, t1, e3, ek, q, g0, z0, z1, n2, prgB, iv, Ins.v, cB3_at, spRTarget_mv, spIndexI_mv, op_jump2 hxr, op_halt2 hxr, spForm_mv, spForm_fn, List.length_map, List.getElem?_map, Int.toNat_natCast, bne_self_eq_false, hT, gn0, qx, wE, zE, hS, ztn, ztd, hfi, hf7b, hf8b, hx]
          repeat' ((first | (refine AG_of ?_ ?_ <;> intro h) | (refine AB_of ?_ ?_ <;> intro h)) <;> simp only [go_sem, seval, eq_self, reduceCtorEq, e1, t1, e3, ek, q, g0, z0, z1, n2, prgB, iv, Ins.v, cB3_at, spRTarget_mv, spIndexI_mv, op_jump2 hxr, op_halt2 hxr, spForm_mv, spForm_fn, List.length_map, List.getElem?_map, Int.toNat_natCast, bne_self_eq_false, hT, gn0, qx, wE, zE, hS, ztn, ztd, hfi, hf7b, hf8b, hx, h])
          exact ⟨⟨by simp [upd, e1], by simp [upd, t1, prgB], by simp [upd, e3, hle], k + 1, by simp [upd], by rw [hle]; omega, by rw [hcs2, hl0]; exact .inr ⟨by simp, (s.st 70).ver + 1, by simp [upd], by simp [upd, Blk4.v]⟩⟩, by simp [upd, numOf, ek]; omega⟩
        ·
          simp only [go_sem, seval, eq_self, reduceCtorEq, e1, t1, e3, ek, q, g0, z0, z1, n2, prgB, iv, Ins.v, cB3_at, spRTarget_mv, spIndexI_mv, op_jump2 hxr, op_halt2 hxr, spForm_mv, spForm_fn, List.length_map, List.getElem?_map, Int.toNat_natCast, bne_self_eq_false, hT, gn0, qx, wE, zE, hS, ztn, ztd, hfi, hf7b, hf8b, hx, hbb, hOl, fl]
          repeat' ((first | (refine AG_of ?_ ?_ <;> intro h) | (refine AB_of ?_ ?_ <;> intro h)) <;> simp only [go_sem, seval, eq_self, reduceCtorEq, e1, t1, e3, ek, q, g0, z0, z1, n2, prgB, iv, Ins.v, cB3_at, spRTarget_mv, spIndexI_mv, op_jump2 hxr, op_halt2 hxr, spForm_mv, spForm_fn, List.length_map, List.getElem?_map, Int.toNat_natCast, bne_self_eq_false, hT, gn0, qx, wE, zE, hS, ztn, ztd, hfi, hf7b, hf8b, hx, hbb, hOl, fl, h])
          refine A_draw_of [6] [6] (by kernel_rfl) ?_
          simp only [go_sem, seval, eq_self, reduceCtorEq, e1, t1, e3, ek, q, g0, z0, z1, n2, prgB, iv, Ins.v, cB3_at, spRTarget_mv, spIndexI_mv, op_jump2 hxr, op_halt2 hxr, spForm_mv, spForm_fn, List.length_map, List.getElem?_map, Int.toNat_natCast, bne_self_eq_false, hT, gn0, qx, wE, zE, hS, ztn, ztd, hfi, hf7b, hf8b, hx, hbb, hOl, fl]
          repeat' ((first | (refine AG_of ?_ ?_ <;> intro h) | (refine AB_of ?_ ?_ <;> intro h)) <;> simp only [go_sem, seval, eq_self, reduceCtorEq, e1, t1, e3, ek, q, g0, z0, z1, n2, prgB, iv, Ins.v, cB3_at, spRTarget_mv, spIndexI_mv, op_jump2 hxr, op_halt2 hxr, spForm_mv, spForm_fn, List.length_map, List.getElem?_map, Int.toNat_natCast, bne_self_eq_false, hT, gn0, qx, wE, zE, hS, ztn, ztd, hfi, hf7b, hf8b, hx, hbb, hOl, fl, h])
          exact ⟨⟨by simp [upd, e1], by simp [upd, t1, prgB], by simp [upd, e3, hle], k + 1, by simp [upd], by rw [hle]; omega, by rw [hcs2]; exact .inr ⟨by simp, v + 1, by simp [upd, hOl], by simp [upd, Blk4.v]⟩⟩, by simp [upd, numOf, ek]; omega⟩
  · have hkl : k = l.length := by omega
    have g0 : decide ((k : Int) < l.length) = false := by simp; omega
    rw [hkl] at hr
    rcases hr with ⟨hl0, hx⟩ | ⟨hl0, v, hx, hbb⟩
    · have h1 : (cutF p l.length).length = l.length := by simp [cutF]
      have h2 : (cutF p l.length).length = 0 := by have := congrArg List.length hl0; simpa using this
      exact absurd (List.eq_nil_of_length_eq_zero (h1.symm.trans h2)) hlne
    ·
      simp only [go_sem, seval, eq_self, reduceCtorEq, e1, t1, e3, ek, g0, hx, List.length_map]
      repeat' ((first | (refine AG_of ?_ ?_ <;> intro h) | (refine AB_of ?_ ?_ <;> intro h) | (refine A_draw_of [] [] (by kernel_rfl) ?_ <;> have h := mark)) <;> simp only [go_sem, seval, eq_self, reduceCtorEq, e1, t1, e3, ek, g0, hx, List.length_map, h])
      all_goals (first | refine fin_ret ?_ | refine fin_normal ?_)
      all_goals simp only [resOf, Tryz.results36, Tryz.ntmps36, go_sem, seval, eq_self, reduceCtorEq, hx, hbb]
end Go.Proofs.YtkfmecmmbnehjaaGreat
