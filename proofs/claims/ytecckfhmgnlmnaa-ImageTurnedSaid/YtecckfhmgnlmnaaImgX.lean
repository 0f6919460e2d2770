/-
Programs as they come in; ImageApart. No condition.
-/
import Derived.Test.YtecckfhmgnlmnaaImgW
import Derived.Test.YtecckfhmgnlmnaaAbK
namespace Go.Proofs.Ytecckfhmgnlmnaa
set_option linter.unusedSimpArgs false
open Go.RowKit

structure WfI (i : Ins) : Prop where
  op : -9223372036854775808 ≤ i.op ∧ i.op < 9223372036854775808
  d : -9223372036854775808 ≤ i.d ∧ i.d < 9223372036854775808
  a : -9223372036854775808 ≤ i.a ∧ i.a < 9223372036854775808
  b : -9223372036854775808 ≤ i.b ∧ i.b < 9223372036854775808
  imm : -9223372036854775808 ≤ i.imm ∧ i.imm < 9223372036854775808

theorem ty_i64 {l : List V} (h : TyV Try.prog 3 l) : ∃ n : Int, l = [.s (.int .i64 n)] ∧ -9223372036854775808 ≤ n ∧ n < 9223372036854775808 := by
  obtain ⟨n, e, hw⟩ := h.int_inv Try.underlying3
  exact ⟨n, e, wf_i64 hw⟩
theorem ty_u8 {l : List V} (h : TyV Try.prog 5 l) : ∃ n : Int, l = [u8v n] ∧ byte n = true := by
  obtain ⟨n, e, hw⟩ := h.int_inv Try.underlying5
  have := wf_u8 hw
  exact ⟨n, e, by simp only [byte, Bool.and_eq_true, decide_eq_true_eq]; omega⟩
theorem ty_ins {l : List V} (h : TyV Try.prog 41 l) : ∃ i : Ins, .agg l = i.v ∧ WfI i := by
  obtain ⟨ls, rfl, hl, hf⟩ := h.struct_inv Try.underlying41
  match ls, hl with
  | [c0, c1, c2, c3, c4], _ =>
    obtain ⟨n0, rfl, h0⟩ := ty_i64 (hf 0 _ _ rfl rfl)
    obtain ⟨n1, rfl, h1⟩ := ty_i64 (hf 1 _ _ rfl rfl)
    obtain ⟨n2, rfl, h2⟩ := ty_i64 (hf 2 _ _ rfl rfl)
    obtain ⟨n3, rfl, h3⟩ := ty_i64 (hf 3 _ _ rfl rfl)
    obtain ⟨n4, rfl, h4⟩ := ty_i64 (hf 4 _ _ rfl rfl)
    exact ⟨⟨n0, n1, n2, n3, n4⟩, rfl, ⟨h0, h1, h2, h3, h4⟩⟩
theorem ty_list {α : Type} {f : V → Option α} {Q : α → Prop} {t e : TypeId} {sz : Nat} (ht : Try.prog.underlying t = some (.slice e)) (hsz : Try.prog.cellsOf e = sz) (hx : ∀ x : V, TyV Try.prog e x.cells → FormV Try.prog e x → ∃ a, f x = some a ∧ Q a)
    {l : List V} (h : TyV Try.prog t l) : ∃ y m c, l = [y] ∧ lOf sz y = some m ∧ m.mapM f = some c ∧ (∀ a ∈ c, Q a) ∧ c.length ≤ maxLen := by
  subst hsz
  rcases h.slice_inv ht with rfl | ⟨m, rfl, hm, h1, h2⟩
  · exact ⟨_, [], [], rfl, rfl, by simp, fun a ha => (by cases ha), Nat.zero_le _⟩
  · have : ∀ m : List V, (∀ x ∈ m, TyV Try.prog e x.cells) → (∀ x ∈ m, FormV Try.prog e x) → ∃ c, m.mapM f = some c ∧ (∀ a ∈ c, Q a) ∧ c.length = m.length := by
      intro m
      induction m with
      | nil => intro _ _; exact ⟨[], by simp, fun a ha => (by cases ha), rfl⟩
      | cons x m ih =>
        intro h1 h2
        obtain ⟨a, ha, hq⟩ := hx x (h1 x (by simp)) (h2 x (by simp))
        obtain ⟨c, hc, hqc, hl⟩ := ih (fun y hy => h1 y (by simp [hy])) (fun y hy => h2 y (by simp [hy]))
        refine ⟨a :: c, by rw [mapM_cons', ha, hc]; rfl, fun b hb => ?_, by simp [hl]⟩
        rcases List.mem_cons.1 hb with rfl | hb
        · exact hq
        · exact hqc b hb
    obtain ⟨c, hc, hq, hl⟩ := this m h1 h2
    exact ⟨_, m, c, rfl, by simp [lOf], hc, hq, by rw [hl]; exact hm⟩
theorem insOf_ty (x : V) (h : TyV Try.prog 41 x.cells) (ha : FormV Try.prog 41 x) : ∃ i, insOf x = some i ∧ WfI i := by
  obtain ⟨i, e, hw⟩ := ty_ins h
  refine ⟨i, ?_, hw⟩
  rw [ha.1 isAgg_41, e]; rfl
theorem u8Of_ty (x : V) (h : TyV Try.prog 5 x.cells) (ha : FormV Try.prog 5 x) : ∃ b, u8Of x = some b ∧ byte b = true := by
  obtain ⟨n, e, hw⟩ := ty_u8 h
  have := ha.2 isAgg_5
  rw [this] at e
  simp only [List.cons.injEq, and_true] at e
  subst e
  exact ⟨n, rfl, hw⟩
/-- a program that came in -/
theorem ty_prg (x : V) (h : TyV Try.prog 25 x.cells) (ha : FormV Try.prog 25 x) : ∃ p, prgOf x = some p ∧ p.data.all byte = true ∧ (∀ i ∈ p.code, WfI i) ∧ p.code.length ≤ maxLen ∧ p.data.length ≤ maxLen := by
  obtain ⟨ls, e, hl, hf⟩ := h.struct_inv Try.underlying25
  match ls, hl with
  | [c0, c1, c2], _ =>
    obtain ⟨y0, m0, p0, rfl, h1, h2, h3, h4⟩ := ty_list (sz := 5) Try.underlying22 (by kernel_rfl) insOf_ty (hf 0 _ _ rfl rfl)
    obtain ⟨n1, rfl, h5⟩ := ty_i64 (hf 1 _ _ rfl rfl)
    obtain ⟨y2, m2, p2, rfl, h6, h7, h8, h9⟩ := ty_list (sz := 1) Try.underlying23 (by kernel_rfl) u8Of_ty (hf 2 _ _ rfl rfl)
    have hx := ha.1 isAgg_25
    rw [e] at hx
    subst hx
    refine ⟨⟨p0, n1, p2⟩, ?_, List.all_eq_true.2 h8, h3, h4, h9⟩
    simp only [List.flatten_cons, List.flatten_nil, List.cons_append, List.nil_append, prgOf, h1, h2, h6, h7, Option.bind_some]
/-- bytes that came in -/
theorem ty_bytes (x : V) (h : TyV Try.prog 23 x.cells) (ha : FormV Try.prog 23 x) : ∃ l c, lOf 1 x = some l ∧ l.mapM u8Of = some c ∧ c.all byte = true ∧ c.length ≤ maxLen := by
  obtain ⟨y2, m2, p2, e, h6, h7, h8, h9⟩ := ty_list (sz := 1) Try.underlying23 (by kernel_rfl) u8Of_ty h
  have := ha.2 isAgg_23
  rw [this] at e
  simp only [List.cons.injEq, and_true] at e
  subst e
  exact ⟨m2, p2, h6, h7, List.all_eq_true.2 h8, h9⟩

theorem apart_eq {p q : Prg} (hp : rightP p = true) (hq : rightP q = true) (dp : p.data.all byte = true) (dq : q.data.all byte = true) : ((strOfNums (imgB p)).toList == (strOfNums (imgB q)).toList) = sameP p q := by
  rw [str_beq (imgB_byte dp) (imgB_byte dq)]
  unfold sameP
  rw [str_beq dp dq]
  by_cases h : p = q
  · subst h; simp
  · have h1 : imgB p ≠ imgB q := fun e => by
      have := read_img hp dp
      rw [e, read_img hq dq] at this
      simp at this
      exact h this.symm
    have h2 : ¬ (p.code = q.code ∧ p.size = q.size ∧ p.data = q.data) := fun ⟨a, b, c⟩ => h (by cases p; cases q; simp_all)
    simp only [h1, decide_false]
    rw [eq_comm, Bool.and_eq_false_iff, Bool.and_eq_false_iff]
    by_cases c1 : p.code = q.code
    · by_cases c2 : p.size = q.size
      · right; simp; exact fun c3 => h2 ⟨c1, c2, c3⟩
      · left; right; simp [c2]
    · left; left; simp [c1]

def spApart : Spec := ⟨[], fun xs => match xs with
  | [x, y] => (prgOf x).bind fun p => (prgOf y).bind fun q => if p.data.all byte = true ∧ q.data.all byte = true then some (.s (.bool true)) else none
  | _ => none⟩
set_option maxHeartbeats 4000000 in
set_option maxRecDepth 8000 in
theorem apart_impl : Impl Try.prog 8 spApart := by
  refine impl_walk2 mixed cImg14_ok eqT_ok Try.func8 rfl Try.ntmps8 (by kernel_rfl) ?_
  intro xs r h
  unfold spApart at h
  simp only at h
  (try split at h) <;> try (cases (show none = some r from h); done)
  rename_i x y
  obtain ⟨p, hp, h3⟩ := Option.bind_eq_some_iff.1 h
  obtain ⟨q, hq, h4⟩ := Option.bind_eq_some_iff.1 h3
  clear h h3
  split at h4
  case isFalse => cases h4
  rename_i hb
  cases h4
  obtain ⟨dp, dq⟩ := hb
  refine ⟨_, prg_args2 hp hq, by simp, ?_⟩
  have hf1 := few_v p
  have hf2 := few_v q
  have hr1 := rightP_v p
  have hr2 := rightP_v q
  simp only [Prg.v] at hf1 hf2 hr1 hr2
  cases c1 : fewB p
  · rw [c1] at hf1
    simp only [go_sem, Nat.reduceEqDiff, Nat.reduceLT, Nat.reduceLeDiff, Nat.reduceAdd, Nat.reduceSub, Nat.reduceMul, Nat.reduceBEq, ↓reduceIte, reduceCtorEq, Int.reduceLT, Int.reduceToNat, UInt8.reduceToNat, Int.reduceLE, Int.reduceBEq, Int.reduceBNe, Int.reduceAdd, Int.reduceSub, Int.reduceMul, Int.reduceNeg, Prg.v, cImg14_at, spTrue_mv, spTrue_fn, spFew_mv, hf1]
    repeat' (first | (refine AG_of ?_ ?_ <;> intro h <;> simp only [go_sem, Nat.reduceEqDiff, Nat.reduceLT, Nat.reduceLeDiff, Nat.reduceAdd, Nat.reduceSub, Nat.reduceMul, Nat.reduceBEq, ↓reduceIte, reduceCtorEq, Int.reduceLT, Int.reduceToNat, UInt8.reduceToNat, Int.reduceLE, Int.reduceBEq, Int.reduceBNe, Int.reduceAdd, Int.reduceSub, Int.reduceMul, Int.reduceNeg, Prg.v, cImg14_at, spTrue_mv, spTrue_fn, spFew_mv, hf1, h]) | (refine AB_of ?_ ?_ <;> intro h <;> simp only [go_sem, Nat.reduceEqDiff, Nat.reduceLT, Nat.reduceLeDiff, Nat.reduceAdd, Nat.reduceSub, Nat.reduceMul, Nat.reduceBEq, ↓reduceIte, reduceCtorEq, Int.reduceLT, Int.reduceToNat, UInt8.reduceToNat, Int.reduceLE, Int.reduceBEq, Int.reduceBNe, Int.reduceAdd, Int.reduceSub, Int.reduceMul, Int.reduceNeg, Prg.v, cImg14_at, spTrue_mv, spTrue_fn, spFew_mv, hf1, h]) | (refine A_draw_of [] [] (by kernel_rfl) ?_ <;> simp only [go_sem, Nat.reduceEqDiff, Nat.reduceLT, Nat.reduceLeDiff, Nat.reduceAdd, Nat.reduceSub, Nat.reduceMul, Nat.reduceBEq, ↓reduceIte, reduceCtorEq, Int.reduceLT, Int.reduceToNat, UInt8.reduceToNat, Int.reduceLE, Int.reduceBEq, Int.reduceBNe, Int.reduceAdd, Int.reduceSub, Int.reduceMul, Int.reduceNeg, Prg.v, cImg14_at, spTrue_mv, spTrue_fn, spFew_mv, hf1]))
    all_goals (first | refine fin_ret ?_ | refine fin_normal ?_)
    all_goals simp only [resOf, Try.results8, Try.ntmps8, go_sem, Nat.reduceEqDiff, Nat.reduceLT, Nat.reduceLeDiff, Nat.reduceAdd, Nat.reduceSub, Nat.reduceMul, Nat.reduceBEq, ↓reduceIte, reduceCtorEq, Int.reduceLT, Int.reduceToNat, UInt8.reduceToNat, Int.reduceLE, Int.reduceBEq, Int.reduceBNe, Int.reduceAdd, Int.reduceSub, Int.reduceMul, Int.reduceNeg]
  cases c2 : fewB q
  · rw [c1] at hf1
    rw [c2] at hf2
    simp only [go_sem, Nat.reduceEqDiff, Nat.reduceLT, Nat.reduceLeDiff, Nat.reduceAdd, Nat.reduceSub, Nat.reduceMul, Nat.reduceBEq, ↓reduceIte, reduceCtorEq, Int.reduceLT, Int.reduceToNat, UInt8.reduceToNat, Int.reduceLE, Int.reduceBEq, Int.reduceBNe, Int.reduceAdd, Int.reduceSub, Int.reduceMul, Int.reduceNeg, Prg.v, cImg14_at, spTrue_mv, spTrue_fn, spFew_mv, hf1, hf2]
    repeat' (first | (refine AG_of ?_ ?_ <;> intro h <;> simp only [go_sem, Nat.reduceEqDiff, Nat.reduceLT, Nat.reduceLeDiff, Nat.reduceAdd, Nat.reduceSub, Nat.reduceMul, Nat.reduceBEq, ↓reduceIte, reduceCtorEq, Int.reduceLT, Int.reduceToNat, UInt8.reduceToNat, Int.reduceLE, Int.reduceBEq, Int.reduceBNe, Int.reduceAdd, Int.reduceSub, Int.reduceMul, Int.reduceNeg, Prg.v, cImg14_at, spTrue_mv, spTrue_fn, spFew_mv, hf1, hf2, h]) | (refine AB_of ?_ ?_ <;> intro h <;> simp only [go_sem, Nat.reduceEqDiff, Nat.reduceLT, Nat.reduceLeDiff, Nat.reduceAdd, Nat.reduceSub, Nat.reduceMul, Nat.reduceBEq, ↓reduceIte, reduceCtorEq, Int.reduceLT, Int.reduceToNat, UInt8.reduceToNat, Int.reduceLE, Int.reduceBEq, Int.reduceBNe, Int.reduceAdd, Int.reduceSub, Int.reduceMul, Int.reduceNeg, Prg.v, cImg14_at, spTrue_mv, spTrue_fn, spFew_mv, hf1, hf2, h]) | (refine A_draw_of [] [] (by kernel_rfl) ?_ <;> simp only [go_sem, Nat.reduceEqDiff, Nat.reduceLT, Nat.reduceLeDiff, Nat.reduceAdd, Nat.reduceSub, Nat.reduceMul, Nat.reduceBEq, ↓reduceIte, reduceCtorEq, Int.reduceLT, Int.reduceToNat, UInt8.reduceToNat, Int.reduceLE, Int.reduceBEq, Int.reduceBNe, Int.reduceAdd, Int.reduceSub, Int.reduceMul, Int.reduceNeg, Prg.v, cImg14_at, spTrue_mv, spTrue_fn, spFew_mv, hf1, hf2]))
    all_goals (first | refine fin_ret ?_ | refine fin_normal ?_)
    all_goals simp only [resOf, Try.results8, Try.ntmps8, go_sem, Nat.reduceEqDiff, Nat.reduceLT, Nat.reduceLeDiff, Nat.reduceAdd, Nat.reduceSub, Nat.reduceMul, Nat.reduceBEq, ↓reduceIte, reduceCtorEq, Int.reduceLT, Int.reduceToNat, UInt8.reduceToNat, Int.reduceLE, Int.reduceBEq, Int.reduceBNe, Int.reduceAdd, Int.reduceSub, Int.reduceMul, Int.reduceNeg]
  cases c3 : rightP p
  · rw [c1] at hf1
    rw [c2] at hf2
    rw [c3] at hr1
    simp only [go_sem, Nat.reduceEqDiff, Nat.reduceLT, Nat.reduceLeDiff, Nat.reduceAdd, Nat.reduceSub, Nat.reduceMul, Nat.reduceBEq, ↓reduceIte, reduceCtorEq, Int.reduceLT, Int.reduceToNat, UInt8.reduceToNat, Int.reduceLE, Int.reduceBEq, Int.reduceBNe, Int.reduceAdd, Int.reduceSub, Int.reduceMul, Int.reduceNeg, Prg.v, cImg14_at, spTrue_mv, spTrue_fn, spFew_mv, hf1, hf2, spRightP_mv, hr1]
    repeat' (first | (refine AG_of ?_ ?_ <;> intro h <;> simp only [go_sem, Nat.reduceEqDiff, Nat.reduceLT, Nat.reduceLeDiff, Nat.reduceAdd, Nat.reduceSub, Nat.reduceMul, Nat.reduceBEq, ↓reduceIte, reduceCtorEq, Int.reduceLT, Int.reduceToNat, UInt8.reduceToNat, Int.reduceLE, Int.reduceBEq, Int.reduceBNe, Int.reduceAdd, Int.reduceSub, Int.reduceMul, Int.reduceNeg, Prg.v, cImg14_at, spTrue_mv, spTrue_fn, spFew_mv, hf1, hf2, spRightP_mv, hr1, h]) | (refine AB_of ?_ ?_ <;> intro h <;> simp only [go_sem, Nat.reduceEqDiff, Nat.reduceLT, Nat.reduceLeDiff, Nat.reduceAdd, Nat.reduceSub, Nat.reduceMul, Nat.reduceBEq, ↓reduceIte, reduceCtorEq, Int.reduceLT, Int.reduceToNat, UInt8.reduceToNat, Int.reduceLE, Int.reduceBEq, Int.reduceBNe, Int.reduceAdd, Int.reduceSub, Int.reduceMul, Int.reduceNeg, Prg.v, cImg14_at, spTrue_mv, spTrue_fn, spFew_mv, hf1, hf2, spRightP_mv, hr1, h]) | (refine A_draw_of [] [] (by kernel_rfl) ?_ <;> simp only [go_sem, Nat.reduceEqDiff, Nat.reduceLT, Nat.reduceLeDiff, Nat.reduceAdd, Nat.reduceSub, Nat.reduceMul, Nat.reduceBEq, ↓reduceIte, reduceCtorEq, Int.reduceLT, Int.reduceToNat, UInt8.reduceToNat, Int.reduceLE, Int.reduceBEq, Int.reduceBNe, Int.reduceAdd, Int.reduceSub, Int.reduceMul, Int.reduceNeg, Prg.v, cImg14_at, spTrue_mv, spTrue_fn, spFew_mv, hf1, hf2, spRightP_mv, hr1]))
    all_goals (first | refine fin_ret ?_ | refine fin_normal ?_)
    all_goals simp only [resOf, Try.results8, Try.ntmps8, go_sem, Nat.reduceEqDiff, Nat.reduceLT, Nat.reduceLeDiff, Nat.reduceAdd, Nat.reduceSub, Nat.reduceMul, Nat.reduceBEq, ↓reduceIte, reduceCtorEq, Int.reduceLT, Int.reduceToNat, UInt8.reduceToNat, Int.reduceLE, Int.reduceBEq, Int.reduceBNe, Int.reduceAdd, Int.reduceSub, Int.reduceMul, Int.reduceNeg]
  cases c4 : rightP q
  · rw [c1] at hf1
    rw [c2] at hf2
    rw [c3] at hr1
    rw [c4] at hr2
    simp only [go_sem, Nat.reduceEqDiff, Nat.reduceLT, Nat.reduceLeDiff, Nat.reduceAdd, Nat.reduceSub, Nat.reduceMul, Nat.reduceBEq, ↓reduceIte, reduceCtorEq, Int.reduceLT, Int.reduceToNat, UInt8.reduceToNat, Int.reduceLE, Int.reduceBEq, Int.reduceBNe, Int.reduceAdd, Int.reduceSub, Int.reduceMul, Int.reduceNeg, Prg.v, cImg14_at, spTrue_mv, spTrue_fn, spFew_mv, hf1, hf2, spRightP_mv, hr1, hr2]
    repeat' (first | (refine AG_of ?_ ?_ <;> intro h <;> simp only [go_sem, Nat.reduceEqDiff, Nat.reduceLT, Nat.reduceLeDiff, Nat.reduceAdd, Nat.reduceSub, Nat.reduceMul, Nat.reduceBEq, ↓reduceIte, reduceCtorEq, Int.reduceLT, Int.reduceToNat, UInt8.reduceToNat, Int.reduceLE, Int.reduceBEq, Int.reduceBNe, Int.reduceAdd, Int.reduceSub, Int.reduceMul, Int.reduceNeg, Prg.v, cImg14_at, spTrue_mv, spTrue_fn, spFew_mv, hf1, hf2, spRightP_mv, hr1, hr2, h]) | (refine AB_of ?_ ?_ <;> intro h <;> simp only [go_sem, Nat.reduceEqDiff, Nat.reduceLT, Nat.reduceLeDiff, Nat.reduceAdd, Nat.reduceSub, Nat.reduceMul, Nat.reduceBEq, ↓reduceIte, reduceCtorEq, Int.reduceLT, Int.reduceToNat, UInt8.reduceToNat, Int.reduceLE, Int.reduceBEq, Int.reduceBNe, Int.reduceAdd, Int.reduceSub, Int.reduceMul, Int.reduceNeg, Prg.v, cImg14_at, spTrue_mv, spTrue_fn, spFew_mv, hf1, hf2, spRightP_mv, hr1, hr2, h]) | (refine A_draw_of [] [] (by kernel_rfl) ?_ <;> simp only [go_sem, Nat.reduceEqDiff, Nat.reduceLT, Nat.reduceLeDiff, Nat.reduceAdd, Nat.reduceSub, Nat.reduceMul, Nat.reduceBEq, ↓reduceIte, reduceCtorEq, Int.reduceLT, Int.reduceToNat, UInt8.reduceToNat, Int.reduceLE, Int.reduceBEq, Int.reduceBNe, Int.reduceAdd, Int.reduceSub, Int.reduceMul, Int.reduceNeg, Prg.v, cImg14_at, spTrue_mv, spTrue_fn, spFew_mv, hf1, hf2, spRightP_mv, hr1, hr2]))
    all_goals (first | refine fin_ret ?_ | refine fin_normal ?_)
    all_goals simp only [resOf, Try.results8, Try.ntmps8, go_sem, Nat.reduceEqDiff, Nat.reduceLT, Nat.reduceLeDiff, Nat.reduceAdd, Nat.reduceSub, Nat.reduceMul, Nat.reduceBEq, ↓reduceIte, reduceCtorEq, Int.reduceLT, Int.reduceToNat, UInt8.reduceToNat, Int.reduceLE, Int.reduceBEq, Int.reduceBNe, Int.reduceAdd, Int.reduceSub, Int.reduceMul, Int.reduceNeg]
  rw [c1] at hf1
  rw [c2] at hf2
  rw [c3] at hr1
  rw [c4] at hr2
  simp only [go_sem, Nat.reduceEqDiff, Nat.reduceLT, Nat.reduceLeDiff, Nat.reduceAdd, Nat.reduceSub, Nat.reduceMul, Nat.reduceBEq, ↓reduceIte, reduceCtorEq, Int.reduceLT, Int.reduceToNat, UInt8.reduceToNat, Int.reduceLE, Int.reduceBEq, Int.reduceBNe, Int.reduceAdd, Int.reduceSub, Int.reduceMul, Int.reduceNeg, Prg.v, cImg14_at, spTrue_mv, spTrue_fn, spFew_mv, hf1, hf2, spRightP_mv, hr1, hr2]
  repeat' (first | (refine AG_of ?_ ?_ <;> intro h <;> simp only [go_sem, Nat.reduceEqDiff, Nat.reduceLT, Nat.reduceLeDiff, Nat.reduceAdd, Nat.reduceSub, Nat.reduceMul, Nat.reduceBEq, ↓reduceIte, reduceCtorEq, Int.reduceLT, Int.reduceToNat, UInt8.reduceToNat, Int.reduceLE, Int.reduceBEq, Int.reduceBNe, Int.reduceAdd, Int.reduceSub, Int.reduceMul, Int.reduceNeg, Prg.v, cImg14_at, spTrue_mv, spTrue_fn, spFew_mv, hf1, hf2, spRightP_mv, hr1, hr2, h]) | (refine AB_of ?_ ?_ <;> intro h <;> simp only [go_sem, Nat.reduceEqDiff, Nat.reduceLT, Nat.reduceLeDiff, Nat.reduceAdd, Nat.reduceSub, Nat.reduceMul, Nat.reduceBEq, ↓reduceIte, reduceCtorEq, Int.reduceLT, Int.reduceToNat, UInt8.reduceToNat, Int.reduceLE, Int.reduceBEq, Int.reduceBNe, Int.reduceAdd, Int.reduceSub, Int.reduceMul, Int.reduceNeg, Prg.v, cImg14_at, spTrue_mv, spTrue_fn, spFew_mv, hf1, hf2, spRightP_mv, hr1, hr2, h]))
  refine A_draw_of [] [] (by kernel_rfl) ?_
  have h1 := bytesL_v p
  have h2 := bytesL_v q
  rw [if_pos c3] at h1
  rw [if_pos c4] at h2
  have hl : (optP (some p)).code.length ≤ 1000000000 := by
    obtain ⟨_, q2, _⟩ := rightP_parts c3
    show p.code.length ≤ _
    omega
  have hs : spSame.fn [p.v, q.v] = some (.s (.bool (sameP p q))) := same_opt hl
  have he := apart_eq c3 c4 dp dq
  have a1 := u8_all (imgB p)
  have n1 := u8_nums (imgB p)
  have a2 := u8_all (imgB q)
  have n2 := u8_nums (imgB q)
  simp only [Prg.v] at h1 h2 hs
  simp only [go_sem, Nat.reduceEqDiff, Nat.reduceLT, Nat.reduceLeDiff, Nat.reduceAdd, Nat.reduceSub, Nat.reduceMul, Nat.reduceBEq, ↓reduceIte, reduceCtorEq, Int.reduceLT, Int.reduceToNat, UInt8.reduceToNat, Int.reduceLE, Int.reduceBEq, Int.reduceBNe, Int.reduceAdd, Int.reduceSub, Int.reduceMul, Int.reduceNeg, cImg14_at, h1, h2, spBytesL_mv, spSame_mv, hs, a1, n1, a2, n2, he]
  repeat' (first | (refine AG_of ?_ ?_ <;> intro h <;> simp only [go_sem, Nat.reduceEqDiff, Nat.reduceLT, Nat.reduceLeDiff, Nat.reduceAdd, Nat.reduceSub, Nat.reduceMul, Nat.reduceBEq, ↓reduceIte, reduceCtorEq, Int.reduceLT, Int.reduceToNat, UInt8.reduceToNat, Int.reduceLE, Int.reduceBEq, Int.reduceBNe, Int.reduceAdd, Int.reduceSub, Int.reduceMul, Int.reduceNeg, cImg14_at, h1, h2, spBytesL_mv, spSame_mv, hs, a1, n1, a2, n2, he, h]) | (refine AB_of ?_ ?_ <;> intro h <;> simp only [go_sem, Nat.reduceEqDiff, Nat.reduceLT, Nat.reduceLeDiff, Nat.reduceAdd, Nat.reduceSub, Nat.reduceMul, Nat.reduceBEq, ↓reduceIte, reduceCtorEq, Int.reduceLT, Int.reduceToNat, UInt8.reduceToNat, Int.reduceLE, Int.reduceBEq, Int.reduceBNe, Int.reduceAdd, Int.reduceSub, Int.reduceMul, Int.reduceNeg, cImg14_at, h1, h2, spBytesL_mv, spSame_mv, hs, a1, n1, a2, n2, he, h]))
  all_goals (first | refine fin_ret ?_ | refine fin_normal ?_)
  all_goals simp only [resOf, Try.results8, Try.ntmps8, go_sem, Nat.reduceEqDiff, Nat.reduceLT, Nat.reduceLeDiff, Nat.reduceAdd, Nat.reduceSub, Nat.reduceMul, Nat.reduceBEq, ↓reduceIte, reduceCtorEq, Int.reduceLT, Int.reduceToNat, UInt8.reduceToNat, Int.reduceLE, Int.reduceBEq, Int.reduceBNe, Int.reduceAdd, Int.reduceSub, Int.reduceMul, Int.reduceNeg]
theorem tells_ok {x y : V} (h : ∃ p, prgOf x = some p ∧ p.data.all byte = true ∧ (∀ i ∈ p.code, WfI i) ∧ p.code.length ≤ maxLen ∧ p.data.length ≤ maxLen) (k : ∃ l c, lOf 1 y = some l ∧ l.mapM u8Of = some c ∧ c.all byte = true ∧ c.length ≤ maxLen) : spTells.fn [x, y] = some (.s (.bool true)) := by
  obtain ⟨p, h1, h2, _⟩ := h
  obtain ⟨l, c, k1, k2, k3, _⟩ := k
  simp only [spTells, h1, k1, k2, Option.bind_some, if_pos k3]
theorem apart_ok {x y : V} (h : ∃ p, prgOf x = some p ∧ p.data.all byte = true ∧ (∀ i ∈ p.code, WfI i) ∧ p.code.length ≤ maxLen ∧ p.data.length ≤ maxLen) (k : ∃ p, prgOf y = some p ∧ p.data.all byte = true ∧ (∀ i ∈ p.code, WfI i) ∧ p.code.length ≤ maxLen ∧ p.data.length ≤ maxLen) : spApart.fn [x, y] = some (.s (.bool true)) := by
  obtain ⟨p, h1, h2, _⟩ := h
  obtain ⟨q, k1, k2, _⟩ := k
  simp only [spApart, h1, k1, Option.bind_some, if_pos (And.intro h2 k2)]
end Go.Proofs.Ytecckfhmgnlmnaa
