/-
The example of chapter 13, and SplitAll. No condition.
-/
import Derived.Test.YtalcmfmhifcaeaaSe
import Derived.Test.YtalcmfmhifcaeaaOf
namespace Go.Proofs.Ytalcmfmhifcaeaa
set_option linter.unusedSimpArgs false
set_option linter.unusedVariables false

def spNum13 : Spec := ⟨[], fun xs => match xs with
  | [.s (.int .i64 n)] => some (.s (.int .i64 n))
  | _ => none⟩
theorem spNum13_mv : spNum13.mv = [] := rfl
theorem spNum13_fn (n : Int) : spNum13.fn [.s (.int .i64 n)] = some (.s (.int .i64 n)) := rfl
theorem num13_impl : Impl Try.prog 12 spNum13 := by
  refine impl_walk mixed orc0_ok eqT_ok Try.func12 rfl Try.ntmps12 (by kernel_rfl) ?_
  intro xs r h
  unfold spNum13 at h
  simp only at h
  (try split at h) <;> try (cases (show none = some r from h); done)
  cases h
  refine ⟨by simp, ?_⟩
  simp only [go_sem, seval, eq_self, reduceCtorEq]
  repeat' ((first | (refine AG_of ?_ ?_ <;> intro h) | (refine AB_of ?_ ?_ <;> intro h) | (refine A_draw_of [] [] (by kernel_rfl) ?_ <;> have h := mark)) <;> simp only [go_sem, seval, eq_self, reduceCtorEq, h])
  all_goals (first | refine fin_ret ?_ | refine fin_normal ?_)
  all_goals simp only [resOf, Try.results12, Try.ntmps12, go_sem, seval, eq_self, reduceCtorEq]
def halted : V := .agg [.s (.int .i64 12), .s (.int .i64 0), .s (.int .i64 0), .s (.int .i64 0), .s (.int .i64 0), .s (.int .i64 0), .s (.int .i64 0), .s (.int .i64 0), .s (.int .i64 0)]
def aliveSV (k : Bool) : V := .agg [.lst k 6 [.agg [.s (.int .i64 0), .s (.int .i64 1), .s (.int .i64 (-1)), .s (.int .i64 (-1)), .lst false 9 [halted], .lst false 9 [halted]]], .s (.int .i64 0), .s (.int .i64 2), .s (.int .i64 2), .s (.int .i64 2), .s (.int .i64 2), .s (.int .i64 2), .s (.int .i64 2), .s (.int .i64 2), .s (.int .i64 2), .s (.int .i64 2), .s (.int .i64 2), .s (.int .i64 2), .s (.int .i64 2), .s (.int .i64 2), .s (.int .i64 2), .s (.int .i64 2)]
theorem alive_split : spSpO.fn [.agg [.lst false 5 [.agg [.s (.int .i64 41), .s (.int .i64 0), .s (.int .i64 0), .s (.int .i64 0), .s (.int .i64 0)]], .s (.int .i64 0), .s (.slice none 0 0)]] = some (.tup [aliveSV true, .s (.int .i64 0)]) := by kernel_rfl
theorem none_split : spSpO.fn [.agg [.s (.slice none 0 0), .s (.int .i64 0), .s (.slice none 0 0)]] = some (.tup [.agg [.s (.slice none 0 0), .s (.int .i64 0), .s (.int .i64 0), .s (.int .i64 0), .s (.int .i64 0), .s (.int .i64 0), .s (.int .i64 0), .s (.int .i64 0), .s (.int .i64 0), .s (.int .i64 0), .s (.int .i64 0), .s (.int .i64 0), .s (.int .i64 0), .s (.int .i64 0), .s (.int .i64 0), .s (.int .i64 0), .s (.int .i64 0)], .s (.int .i64 1)]) := by kernel_rfl
theorem alive_same : spSameS.fn [aliveSV false, aliveSV false] = some (.s (.bool true)) := by kernel_rfl
def cSp1 : Orc := upd (upd (upd cLaw3 9 (some spSpO)) 12 (some spNum13)) 16 (some spSameS)
theorem cSp1_ok : ∀ g sp, cSp1 g = some sp → Impl Try.prog g sp := orc_upd (orc_upd (orc_upd cLaw3_ok spo_impl) num13_impl) sameS_impl
theorem cSp1_at : cSp1 9 = some spSpO ∧ cSp1 12 = some spNum13 ∧ cSp1 16 = some spSameS := ⟨rfl, rfl, rfl⟩
set_option maxRecDepth 8000 in
set_option maxHeartbeats 2000000 in
theorem alive13_impl : Impl Try.prog 6 spTrue := by
  refine impl_walk mixed cSp1_ok eqT_ok Try.func6 rfl Try.ntmps6 (by kernel_rfl) ?_
  intro xs r h
  unfold spTrue at h
  simp only at h
  (try split at h) <;> try (cases (show none = some r from h); done)
  cases h
  refine ⟨by simp, ?_⟩
  have h1 := alive_split
  have h2 := none_split
  have h3 := alive_same
  simp only [aliveSV, halted] at h1 h3
  simp only [go_sem, seval, eq_self, reduceCtorEq, cSp1_at, spSpO_mv, h1, h2, spNum13_mv, spNum13_fn, spSameS_mv, h3]
  repeat' ((first | (refine AG_of ?_ ?_ <;> intro h) | (refine AB_of ?_ ?_ <;> intro h) | (refine A_draw_of [] [] (by kernel_rfl) ?_ <;> have h := mark)) <;> simp only [go_sem, seval, eq_self, reduceCtorEq, cSp1_at, spSpO_mv, h1, h2, spNum13_mv, spNum13_fn, spSameS_mv, h3, h])
  all_goals (first | refine fin_ret ?_ | refine fin_normal ?_)
  all_goals simp only [resOf, Try.results6, Try.ntmps6, go_sem, seval, eq_self, reduceCtorEq]

def cSp2 : Orc := upd (upd (upd cSp1 6 (some spTrue)) 10 (some spSpW)) 15 (some spSameS)
theorem cSp2_ok : ∀ g sp, cSp2 g = some sp → Impl Try.prog g sp := orc_upd (orc_upd (orc_upd cSp1_ok alive13_impl) spw_impl) rsameS_impl
theorem cSp2_at : cSp2 6 = some spTrue ∧ cSp2 10 = some spSpW ∧ cSp2 9 = some spSpO ∧ cSp2 12 = some spNum13 ∧ cSp2 16 = some spSameS ∧ cSp2 15 = some spSameS ∧
    cSp2 7 = some spFew ∧ cSp2 8 = some spRightP ∧ cSp2 11 = some spOwners ∧ cSp2 13 = some spClosed := ⟨rfl, rfl, rfl, rfl, rfl, rfl, rfl, rfl, rfl, rfl⟩
theorem sbAt_v (p : Prg) (o : List Int) (b : Blk4) : (sbAt p o b).v = .agg [.s (.int .i64 b.from_), .s (.int .i64 b.to_), .s (.int .i64 b.next), .s (.int .i64 b.taken), .lst false 9 ((sbAt p o b).a.map Cell.v), .lst false 9 ((sbAt p o b).e.map Cell.v)] := rfl
theorem splitL_at {p : Prg} {k : Nat} {b : Blk4} (h : (cutL p)[k]? = some b) (o : List Int) : (splitL p o)[k]? = some (sbAt p o b) := by
  unfold splitL
  rw [List.getElem?_map, h]; rfl
theorem swV_ok {p : Prg} {o : List Int} (h : closedB p o = true) : swV p o = .tup [.agg (.lst true 6 ((splitL p o).map SB.v) :: o.map iv), .s (.int .i64 0)] := by unfold swV; rw [if_pos h]
theorem swV_no {p : Prg} {o : List Int} (h : closedB p o = false) : swV p o = .tup [noS, .s (.int .i64 1)] := by unfold swV; rw [if_neg (by simp [h])]
theorem cutL_pos {p : Prg} (h : rightP p = true) : 0 < (cutL p).length ∧ (cutL p).length ≤ 2000 := by
  have h1 := leadL_ne h
  have h2 := leadL_len p
  have h3 : (cutL p).length = (leadL p).length := by simp [cutL, cutF]
  have h4 := right_len h
  have h5 : 0 < (leadL p).length := List.length_pos_iff.2 h1
  omega

def spSAll : Spec := ⟨[], fun xs => match xs with
  | [x, .s (.int .i64 _)] => (prgOf x).bind fun _ => some (.s (.bool true))
  | _ => none⟩
def sallI (p : Prg) (o q : List Int) (s : S) : Prop := s.env 6 = .ptr 6 1 0 ∧ s.st 6 = ⟨1, .box (.lst true 6 ((splitL p o).map SB.v) :: o.map iv)⟩ ∧ s.env 8 = .ptr 8 1 0 ∧ s.st 8 = ⟨1, .box (.lst true 6 ((splitL p q).map SB.v) :: q.map iv)⟩ ∧ ∃ k : Nat, s.env 10 = .s (.int .i64 k) ∧ k ≤ (cutL p).length
set_option maxRecDepth 8000 in
set_option maxHeartbeats 8000000 in
theorem sall_impl : Impl Try.prog 3 spSAll := by
  refine impl_walk2 mixed cSp2_ok eqT_ok Try.func3 rfl Try.ntmps3 (by kernel_rfl) ?_
  intro xs r h
  unfold spSAll at h
  simp only at h
  (try split at h) <;> try (cases (show none = some r from h); done)
  rename_i x pick
  obtain ⟨p, hp, h3⟩ := Option.bind_eq_some_iff.1 h
  clear h
  cases h3
  refine ⟨_, (SeesL.cons (prgOf_sees hp) .same).args, by simp, ?_⟩
  have hF := few_v p
  have hR := rightP_v p
  simp only [Prg.v] at hF hR
  cases c1 : fewB p
  · rw [c1] at hF
    simp only [go_sem, seval, eq_self, reduceCtorEq, Prg.v, cSp2_at, spTrue_mv, spTrue_fn, spFew_mv, hF]
    repeat' ((first | (refine AG_of ?_ ?_ <;> intro h) | (refine AB_of ?_ ?_ <;> intro h) | (refine A_draw_of [] [] (by kernel_rfl) ?_ <;> have h := mark)) <;> simp only [go_sem, seval, eq_self, reduceCtorEq, Prg.v, cSp2_at, spTrue_mv, spTrue_fn, spFew_mv, hF, h])
    all_goals (first | refine fin_ret ?_ | refine fin_normal ?_)
    all_goals simp only [resOf, Try.results3, Try.ntmps3, go_sem, seval, eq_self, reduceCtorEq]
  rw [c1] at hF
  cases c2 : rightP p
  · rw [c2] at hR
    simp only [go_sem, seval, eq_self, reduceCtorEq, Prg.v, cSp2_at, spTrue_mv, spTrue_fn, spFew_mv, hF, spRightP_mv, hR]
    repeat' ((first | (refine AG_of ?_ ?_ <;> intro h) | (refine AB_of ?_ ?_ <;> intro h) | (refine A_draw_of [] [] (by kernel_rfl) ?_ <;> have h := mark)) <;> simp only [go_sem, seval, eq_self, reduceCtorEq, Prg.v, cSp2_at, spTrue_mv, spTrue_fn, spFew_mv, hF, spRightP_mv, hR, h])
    all_goals (first | refine fin_ret ?_ | refine fin_normal ?_)
    all_goals simp only [resOf, Try.results3, Try.ntmps3, go_sem, seval, eq_self, reduceCtorEq]
  rw [c2] at hR
  have hrl := right_len c2
  have hS := spSpO_v (p := p) (by omega)
  rw [swV_ok (of_closed c2)] at hS
  have hO := spOwners_fn pick
  have hql := ownS_len pick 15
  have hW := spSpW_v hql p
  have hC := closed_v hql p
  have hol := of_len p
  simp only [Prg.v] at hS hW hC
  obtain ⟨o, hoe⟩ : ∃ o, ofO p = o := ⟨_, rfl⟩
  obtain ⟨q, hqe⟩ : ∃ q, ownS pick 15 = q := ⟨_, rfl⟩
  rw [hoe] at hS hol
  rw [hqe] at hO hql hW hC
  have hto := take_iv hol
  have htq := take_iv hql
  obtain ⟨hp1, hp2⟩ := cutL_pos c2
  have b0 : (((cutL p).length : Int) == 0) = false := by rw [beq_eq_false_iff_ne]; omega
  have hl1 := splitL_len p o
  have hl2 := splitL_len p q
  cases c3 : closedB p q
  · rw [swV_no c3] at hW
    rw [c3] at hC
    simp only [noS] at hW
    simp only [go_sem, seval, eq_self, reduceCtorEq, Prg.v, cSp2_at, spTrue_mv, spTrue_fn, spFew_mv, hF, spRightP_mv, hR, spSpO_mv, hS, hol, hto, z16, List.replicate, List.length_map]
    repeat' ((first | (refine AG_of ?_ ?_ <;> intro h) | (refine AB_of ?_ ?_ <;> intro h)) <;> simp only [go_sem, seval, eq_self, reduceCtorEq, Prg.v, cSp2_at, spTrue_mv, spTrue_fn, spFew_mv, hF, spRightP_mv, hR, spSpO_mv, hS, hol, hto, z16, List.replicate, List.length_map, h])
    refine A_draw_of [8] [8] (by kernel_rfl) ?_
    simp only [go_sem, seval, eq_self, reduceCtorEq, cSp2_at, spOwners_mv, hO, spSpW_mv, hW, spClosed_mv, hC, spNum13_mv, spNum13_fn, hol, hto, hql, htq, hl1, b0, z16, List.replicate, List.length_map]
    repeat' ((first | (refine AG_of ?_ ?_ <;> intro h) | (refine AB_of ?_ ?_ <;> intro h) | (refine A_draw_of [] [] (by kernel_rfl) ?_ <;> have h := mark)) <;> simp only [go_sem, seval, eq_self, reduceCtorEq, cSp2_at, spOwners_mv, hO, spSpW_mv, hW, spClosed_mv, hC, spNum13_mv, spNum13_fn, hol, hto, hql, htq, hl1, b0, z16, List.replicate, List.length_map, h])
    all_goals (first | refine fin_ret ?_ | refine fin_normal ?_)
    all_goals simp only [resOf, Try.results3, Try.ntmps3, go_sem, seval, eq_self, reduceCtorEq]
  rw [swV_ok c3] at hW
  simp only [go_sem, seval, eq_self, reduceCtorEq, Prg.v, cSp2_at, spTrue_mv, spTrue_fn, spFew_mv, hF, spRightP_mv, hR, spSpO_mv, hS, hol, hto, z16, List.replicate, List.length_map]
  repeat' ((first | (refine AG_of ?_ ?_ <;> intro h) | (refine AB_of ?_ ?_ <;> intro h)) <;> simp only [go_sem, seval, eq_self, reduceCtorEq, Prg.v, cSp2_at, spTrue_mv, spTrue_fn, spFew_mv, hF, spRightP_mv, hR, spSpO_mv, hS, hol, hto, z16, List.replicate, List.length_map, h])
  refine A_draw_of [8] [8] (by kernel_rfl) ?_
  simp only [go_sem, seval, eq_self, reduceCtorEq, cSp2_at, spOwners_mv, hO, spSpW_mv, hW, spNum13_mv, spNum13_fn, hol, hto, hql, htq, hl1, hl2, b0, bne_self_eq_false, z16, List.replicate, List.length_map]
  repeat' ((first | (refine AG_of ?_ ?_ <;> intro h) | (refine AB_of ?_ ?_ <;> intro h) | (refine A_draw_of [] [] (by kernel_rfl) ?_ <;> have h := mark)) <;> simp only [go_sem, seval, eq_self, reduceCtorEq, cSp2_at, spOwners_mv, hO, spSpW_mv, hW, spNum13_mv, spNum13_fn, hol, hto, hql, htq, hl1, hl2, b0, bne_self_eq_false, z16, List.replicate, List.length_map, h])
  refine A_loop (sallI p o q) (fun s => (cutL p).length - (numOf (s.env 10)).toNat) ?_ ?_
  · exact ⟨by simp [upd], by simp [upd], by simp [upd], by simp [upd], 0, by simp [upd], by omega⟩
  intro s hs
  obtain ⟨e6, t6, e8, t8, k, ek, hk⟩ := hs
  rcases Nat.lt_or_ge k (cutL p).length with hlt | hge
  · have g0 : decide ((k : Int) < ((cutL p).length : Int)) = true := by simp; omega
    have z0 := Int.natCast_nonneg k
    have n2 : IntKind.i64.wrap ((k : Int) + 1) = (k + 1 : Nat) := by rw [w_i64 (by omega) (by omega)]; omega
    have qb : (cutL p)[k]? = some (cutL p)[k] := List.getElem?_eq_getElem hlt
    obtain ⟨b, hb⟩ : ∃ b, (cutL p)[k] = b := ⟨_, rfl⟩
    rw [hb] at qb
    have q1 := splitL_at qb o
    have q2 := splitL_at qb q
    simp only [go_sem, seval, eq_self, reduceCtorEq, e6, t6, e8, t8, ek, g0, z0, n2, q1, q2, sbAt_v, hl1, hl2, bne_self_eq_false, Int.toNat_natCast, List.getElem?_map, List.length_map]
    repeat' ((first | (refine AG_of ?_ ?_ <;> intro h) | (refine AB_of ?_ ?_ <;> intro h) | (refine A_draw_of [] [] (by kernel_rfl) ?_ <;> have h := mark)) <;> simp only [go_sem, seval, eq_self, reduceCtorEq, e6, t6, e8, t8, ek, g0, z0, n2, q1, q2, sbAt_v, hl1, hl2, bne_self_eq_false, Int.toNat_natCast, List.getElem?_map, List.length_map, h])
    exact ⟨⟨by simp [upd, e6], by simp [upd, t6], by simp [upd, e8], by simp [upd, t8], k + 1, by simp [upd], by omega⟩, by simp [upd, numOf, ek]; omega⟩
  · have hkl : k = (cutL p).length := by omega
    have g0 : decide ((k : Int) < ((cutL p).length : Int)) = false := by simp; omega
    simp only [go_sem, seval, eq_self, reduceCtorEq, e6, t6, e8, t8, ek, g0, hl1, List.length_map]
    repeat' ((first | (refine AG_of ?_ ?_ <;> intro h) | (refine AB_of ?_ ?_ <;> intro h) | (refine A_draw_of [] [] (by kernel_rfl) ?_ <;> have h := mark)) <;> simp only [go_sem, seval, eq_self, reduceCtorEq, e6, t6, e8, t8, ek, g0, hl1, List.length_map, h])
    all_goals (first | refine fin_ret ?_ | refine fin_normal ?_)
    all_goals simp only [resOf, Try.results3, Try.ntmps3, go_sem, seval, eq_self, reduceCtorEq]
theorem sall_ok {x : V} (h : ∃ p, prgOf x = some p ∧ p.data.all byte = true ∧ (∀ i ∈ p.code, WfI i) ∧ p.code.length ≤ maxLen ∧ p.data.length ≤ maxLen) (a : Int) : spSAll.fn [x, .s (.int .i64 a)] = some (.s (.bool true)) := by
  obtain ⟨p, hp, _⟩ := h
  simp only [spSAll, hp, Option.bind_some]
end Go.Proofs.Ytalcmfmhifcaeaa
