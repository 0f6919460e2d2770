/-
BlocksTell by the plain reckoning. No condition.
-/
import Derived.Test.YtbmgaebhcomjaaaBh
namespace Go.Proofs.Ytbmgaebhcomjaaa
set_option linter.unusedSimpArgs false
set_option linter.unusedVariables false

theorem spSame4_nil : spSame4.fn [.agg [.s (.slice none 0 0), .s (.int .i64 0), .s (.int .i64 0), .s (.int .i64 0), .s (.int .i64 0), .s (.int .i64 0), .s (.int .i64 0), .s (.int .i64 0), .s (.int .i64 0), .s (.int .i64 0), .s (.int .i64 0), .s (.int .i64 0), .s (.int .i64 0), .s (.int .i64 0), .s (.int .i64 0), .s (.int .i64 0), .s (.int .i64 0)], .agg [.s (.slice none 0 0), .s (.int .i64 0), .s (.int .i64 0), .s (.int .i64 0), .s (.int .i64 0), .s (.int .i64 0), .s (.int .i64 0), .s (.int .i64 0), .s (.int .i64 0), .s (.int .i64 0), .s (.int .i64 0), .s (.int .i64 0), .s (.int .i64 0), .s (.int .i64 0), .s (.int .i64 0), .s (.int .i64 0), .s (.int .i64 0)]] = some (.s (.bool true)) := by kernel_rfl
theorem spSame4_v {l : List Blk4} (h : l.length ≤ 1000000000) (k k' : Bool) : spSame4.fn [.agg [.lst k 6 (l.map Blk4.v), .s (.int .i64 0), .s (.int .i64 0), .s (.int .i64 0), .s (.int .i64 0), .s (.int .i64 0), .s (.int .i64 0), .s (.int .i64 0), .s (.int .i64 0), .s (.int .i64 0), .s (.int .i64 0), .s (.int .i64 0), .s (.int .i64 0), .s (.int .i64 0), .s (.int .i64 0), .s (.int .i64 0), .s (.int .i64 0)], .agg [.lst k' 6 (l.map Blk4.v), .s (.int .i64 0), .s (.int .i64 0), .s (.int .i64 0), .s (.int .i64 0), .s (.int .i64 0), .s (.int .i64 0), .s (.int .i64 0), .s (.int .i64 0), .s (.int .i64 0), .s (.int .i64 0), .s (.int .i64 0), .s (.int .i64 0), .s (.int .i64 0), .s (.int .i64 0), .s (.int .i64 0), .s (.int .i64 0)]] = some (.s (.bool true)) := by
  have h1 : lOf 6 (.lst k 6 (l.map Blk4.v)) = some (l.map Blk4.v) := rfl
  have h2 : lOf 6 (.lst k' 6 (l.map Blk4.v)) = some (l.map Blk4.v) := rfl
  simp only [spSame4, h1, h2, Option.bind_some, mapM_of blk4Of_v]
  rw [if_pos ⟨h, h⟩]; simp
def cB6 : Orc := upd (upd (upd (upd (upd cB5 7 (some spTrueB)) 11 (some spSame4)) 8 (some spFew)) 14 (some spRightP)) 16 (some spRTarget)
theorem cB6_ok : ∀ g sp, cB6 g = some sp → Impl Try.prog g sp := orc_upd (orc_upd (orc_upd (orc_upd (orc_upd cB5_ok alive10_impl) same4_impl) few_impl) rrightp_impl) rtarget_impl
theorem cB6_at : cB6 7 = some spTrueB ∧ cB6 11 = some spSame4 ∧ cB6 8 = some spFew ∧ cB6 14 = some spRightP ∧ cB6 16 = some spRTarget ∧ cB6 12 = some spCut ∧ cB6 13 = some spCut ∧ cB6 9 = some spLead ∧ cB6 10 = some spLead ∧ cB6 17 = some spShift ∧ cB6 15 = some spForm := ⟨rfl, rfl, rfl, rfl, rfl, rfl, rfl, rfl, rfl, rfl, rfl⟩
theorem cutL_len (p : Prg) : (cutL p).length = (leadL p).length := by simp [cutL, cutF]
def spBTell : Spec := ⟨[], fun xs => match xs with
  | [x] => (prgOf x).bind fun _ => some (.s (.bool true))
  | _ => none⟩
def tellI (p : Prg) (s : S) : Prop := s.env 1 = .ptr 1 1 0 ∧ s.st 1 = ⟨1, .box (prgB p)⟩ ∧ s.env 4 = .lst true 1 ((leadL p).map iv) ∧ s.env 5 = .lst true 1 ((leadL p).map iv) ∧ ∃ k : Nat, s.env 6 = .s (.int .i64 k) ∧ k ≤ (leadL p).length
set_option maxRecDepth 4000 in
set_option maxHeartbeats 4000000 in
theorem btell_impl : Impl Try.prog 3 spBTell := by
  refine impl_walk2 mixed cB6_ok eqT_ok Try.func3 rfl Try.ntmps3 (by kernel_rfl) ?_
  intro xs r h
  unfold spBTell at h
  simp only at h
  (try split at h) <;> try (cases (show none = some r from h); done)
  rename_i x
  obtain ⟨p, hp, h3⟩ := Option.bind_eq_some_iff.1 h
  clear h
  cases h3
  refine ⟨_, (SeesL.cons (prgOf_sees hp) .nil).args, by simp, ?_⟩
  have hf := few_v p
  simp only [Prg.v] at hf
  cases c1 : fewB p
  · rw [c1] at hf
    simp only [go_sem, seval, eq_self, reduceCtorEq, Prg.v, cB6_at, spTrueB_mv, spTrueB_fn, spFew_mv, hf]
    repeat' ((first | (refine AG_of ?_ ?_ <;> intro h) | (refine AB_of ?_ ?_ <;> intro h) | (refine A_draw_of [] [] (by kernel_rfl) ?_ <;> have h := mark)) <;> simp only [go_sem, seval, eq_self, reduceCtorEq, Prg.v, cB6_at, spTrueB_mv, spTrueB_fn, spFew_mv, hf, h])
    all_goals (first | refine fin_ret ?_ | refine fin_normal ?_)
    all_goals simp only [resOf, Try.results3, Try.ntmps3, go_sem, seval, eq_self, reduceCtorEq]
  rw [c1] at hf
  have hL := spLead_v p
  have hC := spCut_v p
  simp only [Prg.v] at hL hC
  cases c2 : rightP p
  · rw [c2] at hL hC
    simp only [Bool.false_eq_true, if_false] at hL hC
    try simp only [go_sem, seval, eq_self, reduceCtorEq, Prg.v, cB6_at, spTrueB_mv, spTrueB_fn, spFew_mv, hf, spLead_mv, spCut_mv, spSame4_mv, hL, hC, spSame4_nil]
    repeat' ((first | (refine AG_of ?_ ?_ <;> intro h) | (refine AB_of ?_ ?_ <;> intro h) | (refine A_draw_of [] [] (by kernel_rfl) ?_ <;> have h := mark) | (refine A_round ?_ <;> have h := mark)) <;> simp only [go_sem, seval, eq_self, reduceCtorEq, Prg.v, cB6_at, spTrueB_mv, spTrueB_fn, spFew_mv, hf, spLead_mv, spCut_mv, spSame4_mv, hL, hC, spSame4_nil, h])
    all_goals (first | refine fin_ret ?_ | refine fin_normal ?_)
    all_goals simp only [resOf, Try.results3, Try.ntmps3, go_sem, seval, eq_self, reduceCtorEq]
  rw [c2] at hL hC
  simp only [if_true] at hL hC
  have hpl := right_len c2
  have hll := leadL_len p
  have hcl := cutL_len p
  have hS := spSame4_v (l := cutL p) (by omega)
  simp only [go_sem, seval, eq_self, reduceCtorEq, Prg.v, cB6_at, spTrueB_mv, spTrueB_fn, spFew_mv, hf, spLead_mv, hL, bne_self_eq_false]
  repeat' ((first | (refine AG_of ?_ ?_ <;> intro h) | (refine AB_of ?_ ?_ <;> intro h) | (refine A_draw_of [] [] (by kernel_rfl) ?_ <;> have h := mark)) <;> simp only [go_sem, seval, eq_self, reduceCtorEq, Prg.v, cB6_at, spTrueB_mv, spTrueB_fn, spFew_mv, hf, spLead_mv, hL, bne_self_eq_false, h])
  refine A_loop (tellI p) (fun s => (leadL p).length - (numOf (s.env 6)).toNat) ?_ ?_
  · exact ⟨by simp [upd], by simp [upd, prgB, V.unfr, V.unfrL, V.cells], by simp [upd], by simp [upd], 0, by simp [upd], by omega⟩
  intro s hs
  obtain ⟨e1, t1, e4, e5, k, ek, hk⟩ := hs
  obtain ⟨l, hle⟩ : ∃ l, leadL p = l := ⟨_, rfl⟩
  have hunf : tellI p = fun s => s.env 1 = .ptr 1 1 0 ∧ s.st 1 = ⟨1, .box (prgB p)⟩ ∧ s.env 4 = .lst true 1 ((leadL p).map iv) ∧ s.env 5 = .lst true 1 ((leadL p).map iv) ∧ ∃ k : Nat, s.env 6 = .s (.int .i64 k) ∧ k ≤ (leadL p).length := rfl
  rw [hle] at e4 e5 hk hll
  rcases Nat.lt_or_ge k l.length with hlt | hge
  · obtain ⟨a, q⟩ : ∃ i, l[k]? = some i := ⟨l[k], List.getElem?_eq_getElem hlt⟩
    have g0 : decide ((k : Int) < l.length) = true := by simp; omega
    have z0 := Int.natCast_nonneg k
    have n2 : IntKind.i64.wrap ((k : Int) + 1) = (k + 1 : Nat) := by rw [w_i64 (by omega) (by omega)]; omega
    simp only [go_sem, seval, eq_self, reduceCtorEq, e1, t1, e4, e5, ek, q, g0, z0, n2, prgB, iv, bne_self_eq_false, Int.toNat_natCast, List.getElem?_map, List.length_map]
    repeat' ((first | (refine AG_of ?_ ?_ <;> intro h) | (refine AB_of ?_ ?_ <;> intro h) | (refine A_draw_of [] [] (by kernel_rfl) ?_ <;> have h := mark)) <;> simp only [go_sem, seval, eq_self, reduceCtorEq, e1, t1, e4, e5, ek, q, g0, z0, n2, prgB, iv, bne_self_eq_false, Int.toNat_natCast, List.getElem?_map, List.length_map, h])
    exact ⟨⟨by simp [upd, e1], by simp [upd, t1, prgB], by simp [upd, e4, hle, iv], by simp [upd, e5, hle, iv], k + 1, by simp [upd], by rw [hle]; omega⟩, by simp [upd, numOf, ek, hle]; omega⟩
  · have hkl : k = l.length := by omega
    have g0 : decide ((k : Int) < l.length) = false := by simp; omega
    simp only [go_sem, seval, eq_self, reduceCtorEq, e1, t1, e4, e5, ek, g0, prgB, cB6_at, spCut_mv, spSame4_mv, hC, hS, List.length_map]
    repeat' ((first | (refine AG_of ?_ ?_ <;> intro h) | (refine AB_of ?_ ?_ <;> intro h) | (refine A_draw_of [] [] (by kernel_rfl) ?_ <;> have h := mark)) <;> simp only [go_sem, seval, eq_self, reduceCtorEq, e1, t1, e4, e5, ek, g0, prgB, cB6_at, spCut_mv, spSame4_mv, hC, hS, List.length_map, h])
    all_goals (first | refine fin_ret ?_ | refine fin_normal ?_)
    all_goals simp only [resOf, Try.results3, Try.ntmps3, go_sem, seval, eq_self, reduceCtorEq]

end Go.Proofs.Ytbmgaebhcomjaaa
