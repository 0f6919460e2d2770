/-
The laws of chapter 11: the example, OwnerTells. No condition.
-/
import Derived.Test.YtnhpkdkffpagdaaOb
namespace Go.Proofs.Ytnhpkdkffpagdaa
set_option linter.unusedSimpArgs false
set_option linter.unusedVariables false

def aliveP : Prg := ⟨[⟨17, 2, 1, 0, 4⟩, ⟨26, 3, 2, 0, 0⟩, ⟨41, 0, 0, 0, 0⟩], 0, []⟩
def aliveO : List Int := [0, 1, 1, 2, 2, 2, 2, 2, 2, 2, 2, 2, 2, 2, 2, 2]
def aliveV : V := .agg [.lst false 5 [.agg [.s (.int .i64 17), .s (.int .i64 2), .s (.int .i64 1), .s (.int .i64 0), .s (.int .i64 4)], .agg [.s (.int .i64 26), .s (.int .i64 3), .s (.int .i64 2), .s (.int .i64 0), .s (.int .i64 0)], .agg [.s (.int .i64 41), .s (.int .i64 0), .s (.int .i64 0), .s (.int .i64 0), .s (.int .i64 0)]], .s (.int .i64 0), .s (.slice none 0 0)]
theorem alive_of : spOf.fn [aliveV] = some (.agg (aliveO.map iv)) := by
  have h1 : prgOf aliveV = some aliveP := by kernel_rfl
  have h2 : ofO aliveP = aliveO := by kernel_rfl
  simp only [spOf, h1, Option.bind_some]
  rw [if_pos (by decide), h2]; rfl
theorem alive_closed : spClosed.fn [aliveV, .agg (aliveO.map iv)] = some (.s (.bool true)) := by kernel_rfl
theorem alive_side : spSide.fn [.agg [.s (.int .i64 17), .s (.int .i64 2), .s (.int .i64 1), .s (.int .i64 0), .s (.int .i64 4)], .agg (aliveO.map iv)] = some (.s (.int .i64 1)) := by kernel_rfl
theorem none_of : spOf.fn [.agg [.s (.slice none 0 0), .s (.int .i64 0), .s (.slice none 0 0)]] = some (.agg [.s (.int .i64 0), .s (.int .i64 0), .s (.int .i64 0), .s (.int .i64 0), .s (.int .i64 0), .s (.int .i64 0), .s (.int .i64 0), .s (.int .i64 0), .s (.int .i64 0), .s (.int .i64 0), .s (.int .i64 0), .s (.int .i64 0), .s (.int .i64 0), .s (.int .i64 0), .s (.int .i64 0), .s (.int .i64 0)]) := by kernel_rfl

def spTrue : Spec := ⟨[], fun xs => match xs with
  | [] => some (.s (.bool true))
  | _ => none⟩
def cLaw1 : Orc := upd (upd (upd (upd (upd cRef2 18 (some spSide)) 19 (some spSide)) 17 (some spClosed)) 15 (some spOf)) 13 (some spFew)
theorem cLaw1_ok : ∀ g sp, cLaw1 g = some sp → Impl Try.prog g sp := orc_upd (orc_upd (orc_upd (orc_upd (orc_upd cRef2_ok side_impl) rside_impl) rclosed_impl) rowner_impl) few_impl
theorem cLaw1_at : cLaw1 18 = some spSide ∧ cLaw1 19 = some spSide ∧ cLaw1 16 = some spClosed ∧ cLaw1 17 = some spClosed ∧ cLaw1 14 = some spOf ∧
    cLaw1 15 = some spOf ∧ cLaw1 13 = some spFew ∧ cLaw1 20 = some spRightP := ⟨rfl, rfl, rfl, rfl, rfl, rfl, rfl, rfl⟩
theorem spSide_mv : spSide.mv = [] := rfl
theorem spClosed_mv : spClosed.mv = [] := rfl
theorem spOf_mv : spOf.mv = [] := rfl
set_option maxRecDepth 8000 in
theorem alive11_impl : Impl Try.prog 12 spTrue := by
  refine impl_walk mixed cLaw1_ok eqT_ok Try.func12 rfl Try.ntmps12 (by kernel_rfl) ?_
  intro xs r h
  unfold spTrue at h
  simp only at h
  (try split at h) <;> try (cases (show none = some r from h); done)
  cases h
  refine ⟨by simp, ?_⟩
  have ho := alive_of
  have hc := alive_closed
  simp only [aliveV] at ho hc
  have hs := alive_side
  have hn := none_of
  have ht := take_iv (o := aliveO) rfl
  have hdr := drop_all (o := aliveO) rfl
  have hal : aliveO.length = 16 := rfl
  have hd1 : List.drop 1 (aliveO.map iv) = .s (.int .i64 1) :: List.drop 2 (aliveO.map iv) := rfl
  have hd2 : List.drop 2 (aliveO.map iv) = .s (.int .i64 1) :: List.drop 3 (aliveO.map iv) := rfl
  have hd3 : List.drop 3 (aliveO.map iv) = .s (.int .i64 2) :: List.drop 4 (aliveO.map iv) := rfl
  simp only [go_sem, seval, eq_self, reduceCtorEq, cLaw1_at, spOf_mv, ho, hn, spClosed_mv, hc, spSide_mv, hs, ht, hdr, hal, hd1, hd2, hd3, List.length_map]
  repeat' ((first | (refine AG_of ?_ ?_ <;> intro h) | (refine AB_of ?_ ?_ <;> intro h) | (refine A_draw_of [] [] (by kernel_rfl) ?_ <;> have h := mark)) <;> simp only [go_sem, seval, eq_self, reduceCtorEq, cLaw1_at, spOf_mv, ho, hn, spClosed_mv, hc, spSide_mv, hs, ht, hdr, hal, hd1, hd2, hd3, List.length_map, h])
  all_goals (first | refine fin_ret ?_ | refine fin_normal ?_)
  all_goals simp only [resOf, Try.results12, Try.ntmps12, go_sem, seval, eq_self, reduceCtorEq]

def cLaw2 : Orc := upd cLaw1 12 (some spTrue)
theorem cLaw2_ok : ∀ g sp, cLaw2 g = some sp → Impl Try.prog g sp := orc_upd cLaw1_ok alive11_impl
theorem cLaw2_a : cLaw2 12 = some spTrue := rfl
theorem cLaw2_at : cLaw2 18 = some spSide ∧ cLaw2 19 = some spSide ∧ cLaw2 16 = some spClosed ∧ cLaw2 17 = some spClosed ∧ cLaw2 14 = some spOf ∧
    cLaw2 15 = some spOf ∧ cLaw2 13 = some spFew ∧ cLaw2 20 = some spRightP := ⟨rfl, rfl, rfl, rfl, rfl, rfl, rfl, rfl⟩
theorem spTrue_mv : spTrue.mv = [] := rfl
theorem spTrue_fn : spTrue.fn [] = some (.s (.bool true)) := rfl
theorem of_v {p : Prg} (h : p.code.length ≤ 1000000000) : spOf.fn [p.v] = some (.agg ((ofO p).map iv)) := by
  simp only [spOf, prgOf_v, Option.bind_some, if_pos h, ownV]
theorem closed_v {o : List Int} (ho : o.length = 16) (p : Prg) : spClosed.fn [p.v, .agg (o.map iv)] = some (.s (.bool (closedB p o))) := by
  have : ownOf (.agg (o.map iv)) = some o := ownOf_v ho
  simp only [spClosed, prgOf_v, this, Option.bind_some]
theorem side_v {o : List Int} (ho : o.length = 16) (op d a b imm : Int) : spSide.fn [.agg [.s (.int .i64 op), .s (.int .i64 d), .s (.int .i64 a), .s (.int .i64 b), .s (.int .i64 imm)], .agg (o.map iv)] = some (.s (.int .i64 (sideI ⟨op, d, a, b, imm⟩ o))) := by
  have : ownOf (.agg (o.map iv)) = some o := ownOf_v ho
  simp only [spSide, this, Option.bind_some]

def spOTells : Spec := ⟨[], fun xs => match xs with
  | [x, y, .agg [.s (.int .i64 _), .s (.int .i64 _), .s (.int .i64 _), .s (.int .i64 _), .s (.int .i64 _)]] => (prgOf x).bind fun _ => (ownOf y).bind fun _ => some (.s (.bool true))
  | _ => none⟩
set_option maxHeartbeats 2000000 in
theorem otells_impl : Impl Try.prog 3 spOTells := by
  refine impl_walk2 mixed cLaw2_ok eqT_ok Try.func3 rfl Try.ntmps3 (by kernel_rfl) ?_
  intro xs r h
  unfold spOTells at h
  simp only at h
  (try split at h) <;> try (cases (show none = some r from h); done)
  rename_i x y op d a b imm
  obtain ⟨p, hp, h3⟩ := Option.bind_eq_some_iff.1 h
  obtain ⟨o, ho, h4⟩ := Option.bind_eq_some_iff.1 h3
  clear h h3
  cases h4
  obtain ⟨rfl, hlen⟩ := ownOf_eq ho
  refine ⟨_, (SeesL.cons (prgOf_sees hp) .same).args, by simp [ownV], ?_⟩
  have hf := few_v p
  simp only [Prg.v] at hf
  cases c1 : fewB p
  · rw [c1] at hf
    simp only [go_sem, seval, eq_self, reduceCtorEq, Prg.v, ownV, cLaw2_a, cLaw2_at, spTrue_mv, spTrue_fn, spFew_mv, hf]
    repeat' ((first | (refine AG_of ?_ ?_ <;> intro h) | (refine AB_of ?_ ?_ <;> intro h) | (refine A_draw_of [] [] (by kernel_rfl) ?_ <;> have h := mark)) <;> simp only [go_sem, seval, eq_self, reduceCtorEq, Prg.v, ownV, cLaw2_a, cLaw2_at, spTrue_mv, spTrue_fn, spFew_mv, hf, h])
    all_goals (first | refine fin_ret ?_ | refine fin_normal ?_)
    all_goals simp only [resOf, Try.results3, Try.ntmps3, go_sem, seval, eq_self, reduceCtorEq]
  rw [c1] at hf
  have hcl : p.code.length ≤ 1000000000 := by
    simp only [fewB, Bool.and_eq_true, decide_eq_true_eq] at c1; omega
  have hO := of_v hcl
  have hC := closed_v hlen p
  have hS := side_v hlen op d a b imm
  have ht := take_iv hlen
  have hq := eqInts_iv (a := ofO p) (b := ofO p) rfl
  have hol := of_len p
  rw [beq_self_eq_true] at hq
  simp only [Prg.v] at hO hC
  simp only [go_sem, seval, eq_self, reduceCtorEq, Prg.v, ownV, cLaw2_a, cLaw2_at, spTrue_mv, spTrue_fn, spFew_mv, hf, spOf_mv, hO, spClosed_mv, hC, spSide_mv, hS, ht, hq, hol, hlen, List.length_map, beq_self_eq_true]
  repeat' ((first | (refine AG_of ?_ ?_ <;> intro h) | (refine AB_of ?_ ?_ <;> intro h) | (refine A_draw_of [] [] (by kernel_rfl) ?_ <;> have h := mark)) <;> simp only [go_sem, seval, eq_self, reduceCtorEq, Prg.v, ownV, cLaw2_a, cLaw2_at, spTrue_mv, spTrue_fn, spFew_mv, hf, spOf_mv, hO, spClosed_mv, hC, spSide_mv, hS, ht, hq, hol, hlen, List.length_map, beq_self_eq_true, h])
  all_goals (first | refine fin_ret ?_ | refine fin_normal ?_)
  all_goals simp only [resOf, Try.results3, Try.ntmps3, go_sem, seval, eq_self, reduceCtorEq]
end Go.Proofs.Ytnhpkdkffpagdaa
