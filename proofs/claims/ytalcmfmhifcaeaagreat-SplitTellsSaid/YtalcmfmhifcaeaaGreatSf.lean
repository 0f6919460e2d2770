/-
The example of chapter 13, and SplitAll. No condition.
-/
import Derived.Test.YtalcmfmhifcaeaaGreatSe
import Derived.Test.YtalcmfmhifcaeaaGreatOf
namespace Go.Proofs.YtalcmfmhifcaeaaGreat
set_option linter.unusedSimpArgs false
set_option linter.unusedVariables false

def spNum13 : Spec := ⟨[], fun xs => match xs with
  | [.s (.int .i64 n)] => some (.s (.int .i64 n))
  | _ => none⟩
theorem spNum13_mv : spNum13.mv = [] := rfl
theorem spNum13_fn (n : Int) : spNum13.fn [.s (.int .i64 n)] = some (.s (.int .i64 n)) := rfl
theorem num13_impl : Impl Tryz.prog 12 spNum13 := by
  refine impl_walk mixed orc0_ok eqT_ok Tryz.func12 rfl Tryz.ntmps12 (by kernel_rfl) ?_
  intro xs r h
  unfold spNum13 at h
  simp only at h
  (try split at h) <;> try (cases (show none = some r from h); done)
  cases h
  refine ⟨by simp, ?_⟩
  simp only [go_sem, seval, eq_self, reduceCtorEq]
  repeat' ((first | (refine AG_of ?_ ?_ <;> intro h) | (refine AB_of ?_ ?_ <;> intro h) | (refine A_draw_of [] [] (by kernel_rfl) ?_ <;> have h := mark)) <;> simp only [go_sem, seval, eq_self, reduceCtorEq, h])
  all_goals (first | refine fin_ret ?_ | refine fin_normal ?_)
  all_goals simp only [resOf, Tryz.results12, Tryz.ntmps12, go_sem, seval, eq_self, reduceCtorEq]
def halted : V := .agg [.s (.int .i64 12), .s (.int .i64 0), .s (.int .i64 0), .s (.int .i64 0), .s (.int .i64 0), .s (.int .i64 0), .s (.int .i64 0), .s (.int .i64 0), .s (.int .i64 0)]
def aliveSV (k : Bool) : V := .agg [.lst k 6 [.agg [.s (.int .i64 0), .s (.int .i64 1), .s (.int .i64 (-1)), .s (.int .i64 (-1)), .lst false 9 [halted], .lst false 9 [halted]]], .s (.int .i64 0), .s (.int .i64 2), .s (.int .i64 2), .s (.int .i64 2), .s (.int .i64 2), .s (.int .i64 2), .s (.int .i64 2), .s (.int .i64 2), .s (.int .i64 2), .s (.int .i64 2), .s (.int .i64 2), .s (.int .i64 2), .s (.int .i64 2), .s (.int .i64 2), .s (.int .i64 2), .s (.int .i64 2)]
theorem alive_split : spSpO.fn [.agg [.lst false 5 [.agg [.s (.int .i64 41), .s (.int .i64 0), .s (.int .i64 0), .s (.int .i64 0), .s (.int .i64 0)]], .s (.int .i64 0), .s (.slice none 0 0)]] = some (.tup [aliveSV true, .s (.int .i64 0)]) := by kernel_rfl
theorem none_split : spSpO.fn [.agg [.s (.slice none 0 0), .s (.int .i64 0), .s (.slice none 0 0)]] = some (.tup [.agg [.s (.slice none 0 0), .s (.int .i64 0), .s (.int .i64 0), .s (.int .i64 0), .s (.int .i64 0), .s (.int .i64 0), .s (.int .i64 0), .s (.int .i64 0), .s (.int .i64 0), .s (.int .i64 0), .s (.int .i64 0), .s (.int .i64 0), .s (.int .i64 0), .s (.int .i64 0), .s (.int .i64 0), .s (.int .i64 0), .s (.int .i64 0)], .s (.int .i64 1)]) := by kernel_rfl
theorem alive_same : spSameS.fn [aliveSV false, aliveSV false] = some (.s (.bool true)) := by kernel_rfl
def cSp1 : Orc := upd (upd (upd cLaw3 7 (some spSpO)) 12 (some spNum13)) 13 (some spSameS)
theorem cSp1_ok : ∀ g sp, cSp1 g = some sp → Impl Tryz.prog g sp := orc_upd (orc_upd (orc_upd cLaw3_ok spo_impl) num13_impl) sameS_impl
theorem cSp1_at : cSp1 7 = some spSpO ∧ cSp1 12 = some spNum13 ∧ cSp1 13 = some spSameS := ⟨rfl, rfl, rfl⟩
set_option maxRecDepth 8000 in
set_option maxHeartbeats 2000000 in
theorem alive13_impl : Impl Tryz.prog 4 spTrue := by
  refine impl_walk mixed cSp1_ok eqT_ok Tryz.func4 rfl Tryz.ntmps4 (by kernel_rfl) ?_
  intro xs r h
  unfold spTrue at h
  simp only at h
  (try split at h) <;> try (cases (show none = some r from h); done)
  cases h
  refine ⟨by simp, ?_⟩
  have h1 := alive_split
  have h2 := none_split
  have h3 := alive_same
  simp only [aliveSV, halted] at h1 h3
  simp only [go_sem, seval, eq_self, reduceCtorEq, cSp1_at, spSpO_mv, h1, h2, spNum13_mv, spNum13_fn, spSameS_mv, h3]
  repeat' ((first | (refine AG_of ?_ ?_ <;> intro h) | (refine AB_of ?_ ?_ <;> intro h) | (refine A_draw_of [] [] (by kernel_rfl) ?_ <;> have h := mark)) <;> simp only [go_sem, seval, eq_self, reduceCtorEq, cSp1_at, spSpO_mv, h1, h2, spNum13_mv, spNum13_fn, spSameS_mv, h3, h])
  all_goals (first | refine fin_ret ?_ | refine fin_normal ?_)
  all_goals simp only [resOf, Tryz.results4, Tryz.ntmps4, go_sem, seval, eq_self, reduceCtorEq]

def cSp2 : Orc := upd (upd (upd cSp1 4 (some spTrue)) 9 (some spSpW)) 11 (some spSameS)
theorem cSp2_ok : ∀ g sp, cSp2 g = some sp → Impl Tryz.prog g sp := orc_upd (orc_upd (orc_upd cSp1_ok alive13_impl) spw_impl) rsameS_impl
theorem cSp2_at : cSp2 4 = some spTrue ∧ cSp2 9 = some spSpW ∧ cSp2 7 = some spSpO ∧ cSp2 12 = some spNum13 ∧ cSp2 13 = some spSameS ∧ cSp2 11 = some spSameS ∧ cSp2 5 = some spFew ∧ cSp2 28 = some spRightP ∧ cSp2 20 = some spClosed := ⟨rfl, rfl, rfl, rfl, rfl, rfl, rfl, rfl, rfl⟩
theorem sbAt_v (p : Prg) (o : List Int) (b : Blk4) : (sbAt p o b).v = .agg [.s (.int .i64 b.from_), .s (.int .i64 b.to_), .s (.int .i64 b.next), .s (.int .i64 b.taken), .lst false 9 ((sbAt p o b).a.map Cell.v), .lst false 9 ((sbAt p o b).e.map Cell.v)] := rfl
theorem splitL_at {p : Prg} {k : Nat} {b : Blk4} (h : (cutL p)[k]? = some b) (o : List Int) : (splitL p o)[k]? = some (sbAt p o b) := by
  unfold splitL
  rw [List.getElem?_map, h]; rfl
theorem swV_ok {p : Prg} {o : List Int} (h : closedB p o = true) : swV p o = .tup [.agg (.lst true 6 ((splitL p o).map SB.v) :: o.map iv), .s (.int .i64 0)] := by unfold swV; rw [if_pos h]
theorem swV_no {p : Prg} {o : List Int} (h : closedB p o = false) : swV p o = .tup [noS, .s (.int .i64 1)] := by unfold swV; rw [if_neg (by simp [h])]
theorem cutL_pos {p : Prg} (h : rightP p = true) : 0 < (cutL p).length ∧ (cutL p).length ≤ 2000 := by
  have h1 := leadL_ne h
  have h2 := leadL_len p
  have h3 : (cutL p).length = (leadL p).length := by simp [cutL, cutF]
  have h4 := right_len h
  have h5 : 0 < (leadL p).length := List.length_pos_iff.2 h1
  omega

def spSAll : Spec := ⟨[], fun xs => match xs with
  | [x, .s (.int .i64 _)] => (prgOf x).bind fun _ => some (.s (.bool true))
  | _ => none⟩
def sallI (p : Prg) (o q : List Int) (s : S) : Prop := s.env 6 = .ptr 6 1 0 ∧ s.st 6 = ⟨1, .box (.lst true 6 ((splitL p o).map SB.v) :: o.map iv)⟩ ∧ s.env 8 = .ptr 8 1 0 ∧ s.st 8 = ⟨1, .box (.lst true 6 ((splitL p q).map SB.v) :: q.map iv)⟩ ∧ ∃ k : Nat, s.env 10 = .s (.int .i64 k) ∧ k ≤ (cutL p).length
theorem sall_ok {x : V} (h : ∃ p, prgOf x = some p ∧ p.data.all byte = true ∧ (∀ i ∈ p.code, WfI i) ∧ p.code.length ≤ maxLen ∧ p.data.length ≤ maxLen) (a : Int) : spSAll.fn [x, .s (.int .i64 a)] = some (.s (.bool true)) := by
  obtain ⟨p, hp, _⟩ := h
  simp only [spSAll, hp, Option.bind_some]

end Go.Proofs.YtalcmfmhifcaeaaGreat
