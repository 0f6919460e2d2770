/-
The laws of chapter 4: the example, and ImageTells, by the plain reckoning. No condition.
-/
import Derived.Test.YtecckfhmgnlmnaaImgU
namespace Go.Proofs.Ytecckfhmgnlmnaa
set_option linter.unusedSimpArgs false

def cImg13 : Orc := upd (upd (upd cImg12 12 (some spRead)) 15 (some spNum)) 10 (some spFew)
theorem cImg13_ok : ∀ g sp, cImg13 g = some sp → Impl Try.prog g sp := orc_upd (orc_upd (orc_upd cImg12_ok rread_impl) num_impl) few_impl
theorem cImg13_at : cImg13 12 = some spRead ∧ cImg13 15 = some spNum ∧ cImg13 10 = some spFew ∧ cImg13 11 = some spRead ∧ cImg13 18 = some spBytes := ⟨rfl, rfl, rfl, rfl, rfl⟩
theorem spRead_mv : spRead.mv = [] := rfl
theorem spNum_mv : spNum.mv = [] := rfl
theorem spNum_fn (n : Int) : spNum.fn [.s (.int .i64 n)] = some (.s (.int .i64 n)) := rfl
theorem spFew_mv : spFew.mv = [] := rfl
theorem spBytes_mv : spBytes.mv = [] := rfl
theorem read_v {l : List Int} (h : l.all byte = true) (hl : l.length ≤ 100000000) : spRead.fn [.lst false 1 (l.map u8v)] = some (.tup [optV (readX l).1, .s (.int .i64 (readX l).2)]) := by
  have hm := mapM_of (f := u8Of) (g := u8v) (fun _ => rfl) l
  simp only [spRead, lOf, if_true, Option.bind_some, hm]
  rw [if_pos ⟨h, hl⟩]
theorem bytes_v {p : Prg} (h : rightP p = true) : spBytes.fn [p.v] = some (.own 1 5 ((imgB p).map u8v)) := by
  simp only [spBytes, prgOf_v, Option.bind_some, if_pos h]
theorem bytes_w {p : Prg} (h : rightP p = false) : spBytes.fn [p.v] = some (.s (.slice none 0 0)) := by
  simp only [spBytes, prgOf_v, Option.bind_some, h]
  rfl

def haltP : Prg := ⟨[⟨41, 0, 0, 0, 0⟩], 4, []⟩
theorem halt_right : rightP haltP = true := by decide
def spTrue : Spec := ⟨[], fun xs => match xs with
  | [] => some (.s (.bool true))
  | _ => none⟩
set_option maxRecDepth 8000 in
theorem alive_impl : Impl Try.prog 9 spTrue := by
  refine impl_walk mixed cImg13_ok eqT_ok Try.func9 rfl Try.ntmps9 (by kernel_rfl) ?_
  intro xs r h
  unfold spTrue at h
  simp only at h
  (try split at h) <;> try (cases (show none = some r from h); done)
  cases h
  refine ⟨by simp, ?_⟩
  have h0 : spRead.fn [.s (.slice none 0 0)] = some (.tup [.agg [.s (.slice none 0 0), .s (.int .i64 0), .s (.slice none 0 0)], .s (.int .i64 2)]) := rfl
  have h1 : spBytes.fn [.agg [.lst false 5 [.agg [.s (.int .i64 41), .s (.int .i64 0), .s (.int .i64 0), .s (.int .i64 0), .s (.int .i64 0)]], .s (.int .i64 4), .s (.slice none 0 0)]] = some (.own 1 5 ((imgB haltP).map u8v)) := by
    have : prgOf (.agg [.lst false 5 [.agg [.s (.int .i64 41), .s (.int .i64 0), .s (.int .i64 0), .s (.int .i64 0), .s (.int .i64 0)]], .s (.int .i64 4), .s (.slice none 0 0)]) = some haltP := rfl
    simp only [spBytes, this, Option.bind_some, if_pos halt_right]
  have h2 : spRead.fn [.lst false 1 ((imgB haltP).map u8v)] = some (.tup [.agg [.lst true 5 [.agg [.s (.int .i64 41), .s (.int .i64 0), .s (.int .i64 0), .s (.int .i64 0), .s (.int .i64 0)]], .s (.int .i64 4), .lst true 1 []], .s (.int .i64 0)]) := by
    rw [read_v (imgB_byte rfl) (by rw [imgB_len]; decide), read_img halt_right rfl]
    rfl
  simp only [go_sem, Nat.reduceEqDiff, Nat.reduceLT, Nat.reduceLeDiff, Nat.reduceAdd, Nat.reduceSub, Nat.reduceMul, Nat.reduceBEq, ↓reduceIte, reduceCtorEq, Int.reduceLT, Int.reduceToNat, UInt8.reduceToNat, Int.reduceLE, Int.reduceBEq, Int.reduceBNe, Int.reduceAdd, Int.reduceSub, Int.reduceMul, Int.reduceNeg, cImg13_at, spRead_mv, spNum_mv, spNum_fn, spBytes_mv, h0, h1, h2]
  repeat' (first | (refine AG_of ?_ ?_ <;> intro h <;> simp only [go_sem, Nat.reduceEqDiff, Nat.reduceLT, Nat.reduceLeDiff, Nat.reduceAdd, Nat.reduceSub, Nat.reduceMul, Nat.reduceBEq, ↓reduceIte, reduceCtorEq, Int.reduceLT, Int.reduceToNat, UInt8.reduceToNat, Int.reduceLE, Int.reduceBEq, Int.reduceBNe, Int.reduceAdd, Int.reduceSub, Int.reduceMul, Int.reduceNeg, cImg13_at, spRead_mv, spNum_mv, spNum_fn, spBytes_mv, h0, h1, h2, h]) | (refine AB_of ?_ ?_ <;> intro h <;> simp only [go_sem, Nat.reduceEqDiff, Nat.reduceLT, Nat.reduceLeDiff, Nat.reduceAdd, Nat.reduceSub, Nat.reduceMul, Nat.reduceBEq, ↓reduceIte, reduceCtorEq, Int.reduceLT, Int.reduceToNat, UInt8.reduceToNat, Int.reduceLE, Int.reduceBEq, Int.reduceBNe, Int.reduceAdd, Int.reduceSub, Int.reduceMul, Int.reduceNeg, cImg13_at, spRead_mv, spNum_mv, spNum_fn, spBytes_mv, h0, h1, h2, h]) | (refine A_draw_of [] [] (by kernel_rfl) ?_ <;> simp only [go_sem, Nat.reduceEqDiff, Nat.reduceLT, Nat.reduceLeDiff, Nat.reduceAdd, Nat.reduceSub, Nat.reduceMul, Nat.reduceBEq, ↓reduceIte, reduceCtorEq, Int.reduceLT, Int.reduceToNat, UInt8.reduceToNat, Int.reduceLE, Int.reduceBEq, Int.reduceBNe, Int.reduceAdd, Int.reduceSub, Int.reduceMul, Int.reduceNeg, cImg13_at, spRead_mv, spNum_mv, spNum_fn, spBytes_mv, h0, h1, h2]))
  all_goals (first | refine fin_ret ?_ | refine fin_normal ?_)
  all_goals simp only [resOf, Try.results9, Try.ntmps9, go_sem, Nat.reduceEqDiff, Nat.reduceLT, Nat.reduceLeDiff, Nat.reduceAdd, Nat.reduceSub, Nat.reduceMul, Nat.reduceBEq, ↓reduceIte, reduceCtorEq, Int.reduceLT, Int.reduceToNat, UInt8.reduceToNat, Int.reduceLE, Int.reduceBEq, Int.reduceBNe, Int.reduceAdd, Int.reduceSub, Int.reduceMul, Int.reduceNeg]
end Go.Proofs.Ytecckfhmgnlmnaa
