/-
SplitTells by the plain reckoning, and what comes in. No condition.
-/
import Derived.Test.YtalcmfmhifcaeaaGreatTa
import Derived.Test.YtalcmfmhifcaeaaGreatSg
import Derived.Test.YtalcmfmhifcaeaaGreatOd
namespace Go.Proofs.YtalcmfmhifcaeaaGreat
set_option linter.unusedSimpArgs false
set_option linter.unusedVariables false

/-- how many blocks and cells, as far as it is counted -/
def fewL : List SB → Int → Int
  | [], n => n
  | b :: r, n => if n < 10000 then fewL r (IntKind.i64.wrap (IntKind.i64.wrap (IntKind.i64.wrap (n + 1) + (b.a.length : Int)) + (b.e.length : Int))) else n
theorem fewL_cons (b : SB) (r : List SB) (n : Int) : fewL (b :: r) n = if n < 10000 then fewL r (IntKind.i64.wrap (IntKind.i64.wrap (IntKind.i64.wrap (n + 1) + (b.a.length : Int)) + (b.e.length : Int))) else n := rfl
theorem fewL_nil (n : Int) : fewL [] n = n := rfl
def few13 (s : Spl) : Bool := decide (fewL s.bl 0 ≤ 1500)
def spFew13 : Spec := ⟨[], fun xs => match xs with
  | [x] => (splOf x).bind fun s => if sbsFit s.bl = true then some (.s (.bool (few13 s))) else none
  | _ => none⟩
theorem spFew13_mv : spFew13.mv = [] := rfl
theorem spFew13_v {s : Spl} (ho : s.o.length = 16) (h : sbsFit s.bl = true) : spFew13.fn [s.v] = some (.s (.bool (few13 s))) := by
  have : splOf s.v = some s := splOf_v false s.bl ho
  simp only [spFew13, this, Option.bind_some, if_pos h]
def few13I (s0 : Spl) (s : S) : Prop := s.env 1 = .ptr 1 1 0 ∧ s.st 1 = ⟨1, .box (.lst false 6 (s0.bl.map SB.v) :: s0.o.map iv)⟩ ∧ ∃ (k : Nat) (n : Int), s.env 4 = .s (.int .i64 k) ∧ s.env 3 = .s (.int .i64 n) ∧ k ≤ s0.bl.length ∧ fewL (s0.bl.drop k) n = fewL s0.bl 0
set_option maxRecDepth 8000 in
set_option maxHeartbeats 4000000 in
theorem few13_impl : Impl Tryz.prog 6 spFew13 := by
  refine impl_walk2 mixed orc0_ok eqT_ok Tryz.func6 rfl Tryz.ntmps6 (by kernel_rfl) ?_
  intro xs r h
  unfold spFew13 at h
  simp only at h
  (try split at h) <;> try (cases (show none = some r from h); done)
  rename_i x
  obtain ⟨s0, hu, h4⟩ := Option.bind_eq_some_iff.1 h
  clear h
  split at h4
  case isFalse => cases h4
  rename_i hbig
  cases h4
  obtain ⟨sa, oa⟩ := splOf_sees hu
  refine ⟨_, (SeesL.cons sa .nil).args, by simp [Spl.v], ?_⟩
  have ta := take_iv oa
  obtain ⟨hl, _⟩ := sbsFit_iff hbig
  simp only [go_sem, seval, eq_self, reduceCtorEq, Spl.v, ta, oa, List.length_map]
  repeat' ((first | (refine AG_of ?_ ?_ <;> intro h) | (refine AB_of ?_ ?_ <;> intro h) | (refine A_draw_of [] [] (by kernel_rfl) ?_ <;> have h := mark)) <;> simp only [go_sem, seval, eq_self, reduceCtorEq, Spl.v, ta, oa, List.length_map, h])
  refine A_loop (few13I s0) (fun s => s0.bl.length - (numOf (s.env 4)).toNat) ?_ ?_
  · exact ⟨by simp [upd], by simp [upd, V.unfr, V.cells, unfrL_iv, V.unfrL], 0, 0, by simp [upd], by simp [upd], by omega, by simp⟩
  intro s hs
  obtain ⟨e1, t1, k, n, ek, en, hk, hf⟩ := hs
  have fin : ∀ m : Int, m = fewL s0.bl 0 → decide (m ≤ 1500) = few13 s0 := fun m hm => by
    unfold few13
    rw [← hm]
  rcases Nat.lt_or_ge k s0.bl.length with hlt | hge
  · have g0 : decide ((k : Int) < (s0.bl.length : Int)) = true := by simp; omega
    have z0 := Int.natCast_nonneg k
    obtain ⟨u, q⟩ : ∃ u, s0.bl[k]? = some u := ⟨s0.bl[k], List.getElem?_eq_getElem hlt⟩
    have hd : s0.bl.drop k = u :: s0.bl.drop (k + 1) := by
      rw [List.drop_eq_getElem_cons hlt]
      congr 1
      exact (List.getElem?_eq_some_iff.1 q).2
    rw [hd, fewL_cons] at hf
    have n2 : IntKind.i64.wrap ((k : Int) + 1) = (k + 1 : Nat) := by rw [w_i64 (by omega) (by omega)]; omega
    by_cases h1 : n < 10000
    · rw [if_pos h1] at hf
      have g1 : decide (n < 10000) = true := by simp; omega
      obtain ⟨m, hm⟩ : ∃ m, IntKind.i64.wrap (IntKind.i64.wrap (IntKind.i64.wrap (n + 1) + (u.a.length : Int)) + (u.e.length : Int)) = m := ⟨_, rfl⟩
      rw [hm] at hf
      simp only [go_sem, seval, eq_self, reduceCtorEq, e1, t1, ek, en, g0, g1, z0, q, hm, n2, SB.v, Int.toNat_natCast, List.getElem?_map, List.length_map]
      repeat' ((first | (refine AG_of ?_ ?_ <;> intro h) | (refine AB_of ?_ ?_ <;> intro h) | (refine A_draw_of [] [] (by kernel_rfl) ?_ <;> have h := mark)) <;> simp only [go_sem, seval, eq_self, reduceCtorEq, e1, t1, ek, en, g0, g1, z0, q, hm, n2, SB.v, Int.toNat_natCast, List.getElem?_map, List.length_map, h])
      exact ⟨⟨by simp [upd, e1], by simp [upd, t1], k + 1, m, by simp [upd], by simp [upd], by omega, hf⟩, by simp [upd, numOf, ek]; omega⟩
    · rw [if_neg h1] at hf
      have g1 : decide (n < 10000) = false := by simp; omega
      have hfin := fin n hf
      simp only [go_sem, seval, eq_self, reduceCtorEq, e1, t1, ek, en, g0, g1, z0, hfin, List.length_map]
      repeat' ((first | (refine AG_of ?_ ?_ <;> intro h) | (refine AB_of ?_ ?_ <;> intro h) | (refine A_draw_of [] [] (by kernel_rfl) ?_ <;> have h := mark)) <;> simp only [go_sem, seval, eq_self, reduceCtorEq, e1, t1, ek, en, g0, g1, z0, hfin, List.length_map, h])
      all_goals (first | refine fin_ret ?_ | refine fin_normal ?_)
      all_goals simp only [resOf, Tryz.results6, Tryz.ntmps6, go_sem, seval, eq_self, reduceCtorEq]
  · have g0 : decide ((k : Int) < (s0.bl.length : Int)) = false := by simp; omega
    rw [List.drop_eq_nil_of_le hge, fewL_nil] at hf
    have hfin := fin n hf
    simp only [go_sem, seval, eq_self, reduceCtorEq, e1, t1, ek, en, g0, hfin, List.length_map]
    repeat' ((first | (refine AG_of ?_ ?_ <;> intro h) | (refine AB_of ?_ ?_ <;> intro h) | (refine A_draw_of [] [] (by kernel_rfl) ?_ <;> have h := mark)) <;> simp only [go_sem, seval, eq_self, reduceCtorEq, e1, t1, ek, en, g0, hfin, List.length_map, h])
    all_goals (first | refine fin_ret ?_ | refine fin_normal ?_)
    all_goals simp only [resOf, Tryz.results6, Tryz.ntmps6, go_sem, seval, eq_self, reduceCtorEq]

def cT3 : Orc := upd (upd (upd (upd (upd (upd (upd (upd (upd cT2 6 (some spFew13)) 4 (some spTrue)) 9 (some spSpW)) 7 (some spSpO)) 12 (some spNum13)) 13 (some spSameS)) 11 (some spSameS)) 5 (some spFew)) 8 (some spSpO)
theorem cT3_ok : ∀ g sp, cT3 g = some sp → Impl Tryz.prog g sp := orc_upd (orc_upd (orc_upd (orc_upd (orc_upd (orc_upd (orc_upd (orc_upd (orc_upd cT2_ok few13_impl) alive13_impl) spw_impl) spo_impl) num13_impl) sameS_impl) rsameS_impl) few_impl) rspo_impl
theorem cT3_at : cT3 6 = some spFew13 ∧ cT3 4 = some spTrue ∧ cT3 9 = some spSpW ∧ cT3 7 = some spSpO ∧ cT3 12 = some spNum13 ∧ cT3 13 = some spSameS ∧
    cT3 11 = some spSameS ∧ cT3 5 = some spFew ∧ cT3 8 = some spSpO ∧ cT3 10 = some spSpW := ⟨rfl, rfl, rfl, rfl, rfl, rfl, rfl, rfl, rfl, rfl⟩
def spSTells : Spec := ⟨[], fun xs => match xs with
  | [x, y, u, v] => (prgOf x).bind fun _ => (ownOf y).bind fun _ => (splOf u).bind fun a => (splOf v).bind fun b => if sbsFit a.bl = true ∧ sbsFit b.bl = true then some (.s (.bool true)) else none
  | _ => none⟩
theorem zero_take : List.take 16 z16 = z16 := rfl
set_option maxRecDepth 8000 in
set_option maxHeartbeats 16000000 in
theorem stells_impl : Impl Tryz.prog 3 spSTells := by
  refine impl_walk2 mixed cT3_ok eqT_ok Tryz.func3 rfl Tryz.ntmps3 (by kernel_rfl) ?_
  intro xs r h
  unfold spSTells at h
  simp only at h
  (try split at h) <;> try (cases (show none = some r from h); done)
  rename_i x y u v
  obtain ⟨p, hp, h3⟩ := Option.bind_eq_some_iff.1 h
  obtain ⟨o, ho, h4⟩ := Option.bind_eq_some_iff.1 h3
  obtain ⟨a, hu, h5⟩ := Option.bind_eq_some_iff.1 h4
  obtain ⟨b, hv, h6⟩ := Option.bind_eq_some_iff.1 h5
  clear h h3 h4 h5
  split at h6
  case isFalse => cases h6
  rename_i hbig
  cases h6
  obtain ⟨hba, hbb⟩ := hbig
  obtain ⟨rfl, hlen⟩ := ownOf_eq ho
  obtain ⟨sa, oa⟩ := splOf_sees hu
  obtain ⟨sb, ob⟩ := splOf_sees hv
  refine ⟨_, (SeesL.cons (prgOf_sees hp) (.cons .same (.cons sa (.cons sb .nil)))).args, by simp [ownV, Spl.v], ?_⟩
  clear hu hv sa sb
  have hF := few_v p
  have hFa := spFew13_v oa hba
  have hFb := spFew13_v ob hbb
  have ta := take_iv oa
  have tb := take_iv ob
  have too := take_iv hlen
  simp only [Prg.v] at hF
  simp only [Spl.v] at hFa hFb
  cases c1 : fewB p
  · rw [c1] at hF
    simp only [go_sem, seval, eq_self, reduceCtorEq, Prg.v, Spl.v, ownV, ta, tb, too, oa, ob, hlen, cT3_at, spTrue_mv, spTrue_fn, spFew_mv, hF, List.length_map]
    repeat' ((first | (refine AG_of ?_ ?_ <;> intro h) | (refine AB_of ?_ ?_ <;> intro h) | (refine A_draw_of [] [] (by kernel_rfl) ?_ <;> have h := mark)) <;> simp only [go_sem, seval, eq_self, reduceCtorEq, Prg.v, Spl.v, ownV, ta, tb, too, oa, ob, hlen, cT3_at, spTrue_mv, spTrue_fn, spFew_mv, hF, List.length_map, h])
    all_goals (first | refine fin_ret ?_ | refine fin_normal ?_)
    all_goals simp only [resOf, Tryz.results3, Tryz.ntmps3, go_sem, seval, eq_self, reduceCtorEq]
  rw [c1] at hF
  cases c2 : few13 a
  · rw [c2] at hFa
    simp only [go_sem, seval, eq_self, reduceCtorEq, Prg.v, Spl.v, ownV, ta, tb, too, oa, ob, hlen, cT3_at, spTrue_mv, spTrue_fn, spFew_mv, hF, spFew13_mv, hFa, List.length_map]
    repeat' ((first | (refine AG_of ?_ ?_ <;> intro h) | (refine AB_of ?_ ?_ <;> intro h) | (refine A_draw_of [] [] (by kernel_rfl) ?_ <;> have h := mark)) <;> simp only [go_sem, seval, eq_self, reduceCtorEq, Prg.v, Spl.v, ownV, ta, tb, too, oa, ob, hlen, cT3_at, spTrue_mv, spTrue_fn, spFew_mv, hF, spFew13_mv, hFa, List.length_map, h])
    all_goals (first | refine fin_ret ?_ | refine fin_normal ?_)
    all_goals simp only [resOf, Tryz.results3, Tryz.ntmps3, go_sem, seval, eq_self, reduceCtorEq]
  rw [c2] at hFa
  cases c3 : few13 b
  · rw [c3] at hFb
    simp only [go_sem, seval, eq_self, reduceCtorEq, Prg.v, Spl.v, ownV, ta, tb, too, oa, ob, hlen, cT3_at, spTrue_mv, spTrue_fn, spFew_mv, hF, spFew13_mv, hFa, hFb, List.length_map]
    repeat' ((first | (refine AG_of ?_ ?_ <;> intro h) | (refine AB_of ?_ ?_ <;> intro h) | (refine A_draw_of [] [] (by kernel_rfl) ?_ <;> have h := mark)) <;> simp only [go_sem, seval, eq_self, reduceCtorEq, Prg.v, Spl.v, ownV, ta, tb, too, oa, ob, hlen, cT3_at, spTrue_mv, spTrue_fn, spFew_mv, hF, spFew13_mv, hFa, hFb, List.length_map, h])
    all_goals (first | refine fin_ret ?_ | refine fin_normal ?_)
    all_goals simp only [resOf, Tryz.results3, Tryz.ntmps3, go_sem, seval, eq_self, reduceCtorEq]
  rw [c3] at hFb
  have hpl : p.code.length ≤ 200 := by
    unfold fewB at c1
    simp only [Bool.and_eq_true, decide_eq_true_eq] at c1
    omega
  have hS := spSpO_v (p := p) (by omega)
  have hW := spSpW_v hlen p
  have hol := of_len p
  have tol := take_iv hol
  simp only [Prg.v] at hS hW
  have fa := hba
  have fb := hbb
  have hab := spSameS_v (splOf_v false a.bl oa) (splOf_v false b.bl ob) fa fb
  have haa := spSameS_v (splOf_v false a.bl oa) (splOf_v false a.bl oa) fa fa
  rw [show decide ((⟨a.bl, a.o⟩ : Spl) = ⟨a.bl, a.o⟩) = true by simp] at haa
  obtain ⟨dab, hdab⟩ : ∃ d, decide ((⟨a.bl, a.o⟩ : Spl) = ⟨b.bl, b.o⟩) = d := ⟨_, rfl⟩
  rw [hdab] at hab
  have hz := spSameS_v (splOf_nil (o := zeroO) rfl) (splOf_nil (o := zeroO) rfl) rfl rfl
  rw [show decide ((⟨[], zeroO⟩ : Spl) = ⟨[], zeroO⟩) = true by simp] at hz
  have hz2 : spSameS.fn [.agg (.s (.slice none 0 0) :: z16), .agg (.s (.slice none 0 0) :: z16)] = some (.s (.bool true)) := hz
  simp only [z16, List.replicate] at hz2
  cases cr : rightP p
  · have h1 : closedB p (ofO p) = false := by unfold closedB; rw [cr]; rfl
    have h2 : closedB p o = false := by unfold closedB; rw [cr]; rfl
    rw [swV_no h1] at hS
    rw [swV_no h2] at hW
    simp only [noS, z16, List.replicate] at hS hW
    simp only [go_sem, seval, eq_self, reduceCtorEq, Prg.v, Spl.v, ownV, ta, tb, too, oa, ob, hlen, cT3_at, spTrue_mv, spTrue_fn, spFew_mv, hF, spFew13_mv, hFa, hFb, spSpO_mv, spSpW_mv, hS, hW, spSameS_mv, hz2, hab, haa, spNum13_mv, spNum13_fn, beq_self_eq_true, List.length_map]
    repeat' ((first | (refine AG_of ?_ ?_ <;> intro h) | (refine AB_of ?_ ?_ <;> intro h) | (refine A_draw_of [] [] (by kernel_rfl) ?_ <;> have h := mark)) <;> simp only [go_sem, seval, eq_self, reduceCtorEq, Prg.v, Spl.v, ownV, ta, tb, too, oa, ob, hlen, cT3_at, spTrue_mv, spTrue_fn, spFew_mv, hF, spFew13_mv, hFa, hFb, spSpO_mv, spSpW_mv, hS, hW, spSameS_mv, hz2, hab, haa, spNum13_mv, spNum13_fn, beq_self_eq_true, List.length_map, h])
    all_goals (first | refine fin_ret ?_ | refine fin_normal ?_)
    all_goals simp only [resOf, Tryz.results3, Tryz.ntmps3, go_sem, seval, eq_self, reduceCtorEq]
  have h1 : closedB p (ofO p) = true := of_closed cr
  rw [swV_ok h1] at hS
  obtain ⟨q, hq⟩ : ∃ q, ofO p = q := ⟨_, rfl⟩
  rw [hq] at hS hol tol
  have hqq := spSameS_v (splOf_v false (splitL p q) hol) (splOf_v false (splitL p q) hol) (splitL_fit cr q) (splitL_fit cr q)
  rw [show decide ((⟨splitL p q, q⟩ : Spl) = ⟨splitL p q, q⟩) = true by simp] at hqq
  cases co : closedB p o
  · rw [swV_no co] at hW
    simp only [noS, z16, List.replicate] at hW
    simp only [go_sem, seval, eq_self, reduceCtorEq, Prg.v, Spl.v, ownV, ta, tb, too, oa, ob, hlen, hol, tol, cT3_at, spTrue_mv, spTrue_fn, spFew_mv, hF, spFew13_mv, hFa, hFb, spSpO_mv, spSpW_mv, hS, hW, spSameS_mv, hqq, hz2, hab, haa, spNum13_mv, spNum13_fn, beq_self_eq_true, List.length_map]
    repeat' ((first | (refine AG_of ?_ ?_ <;> intro h) | (refine AB_of ?_ ?_ <;> intro h) | (refine A_draw_of [] [] (by kernel_rfl) ?_ <;> have h := mark)) <;> simp only [go_sem, seval, eq_self, reduceCtorEq, Prg.v, Spl.v, ownV, ta, tb, too, oa, ob, hlen, hol, tol, cT3_at, spTrue_mv, spTrue_fn, spFew_mv, hF, spFew13_mv, hFa, hFb, spSpO_mv, spSpW_mv, hS, hW, spSameS_mv, hqq, hz2, hab, haa, spNum13_mv, spNum13_fn, beq_self_eq_true, List.length_map, h])
    all_goals (first | refine fin_ret ?_ | refine fin_normal ?_)
    all_goals simp only [resOf, Tryz.results3, Tryz.ntmps3, go_sem, seval, eq_self, reduceCtorEq]
  rw [swV_ok co] at hW
  have hoo := spSameS_v (splOf_v false (splitL p o) hlen) (splOf_v false (splitL p o) hlen) (splitL_fit cr o) (splitL_fit cr o)
  rw [show decide ((⟨splitL p o, o⟩ : Spl) = ⟨splitL p o, o⟩) = true by simp] at hoo
  simp only [go_sem, seval, eq_self, reduceCtorEq, Prg.v, Spl.v, ownV, ta, tb, too, oa, ob, hlen, hol, tol, cT3_at, spTrue_mv, spTrue_fn, spFew_mv, hF, spFew13_mv, hFa, hFb, spSpO_mv, spSpW_mv, hS, hW, spSameS_mv, hqq, hoo, hab, haa, spNum13_mv, spNum13_fn, beq_self_eq_true, List.length_map]
  repeat' ((first | (refine AG_of ?_ ?_ <;> intro h) | (refine AB_of ?_ ?_ <;> intro h) | (refine A_draw_of [] [] (by kernel_rfl) ?_ <;> have h := mark)) <;> simp only [go_sem, seval, eq_self, reduceCtorEq, Prg.v, Spl.v, ownV, ta, tb, too, oa, ob, hlen, hol, tol, cT3_at, spTrue_mv, spTrue_fn, spFew_mv, hF, spFew13_mv, hFa, hFb, spSpO_mv, spSpW_mv, hS, hW, spSameS_mv, hqq, hoo, hab, haa, spNum13_mv, spNum13_fn, beq_self_eq_true, List.length_map, h])
  all_goals (first | refine fin_ret ?_ | refine fin_normal ?_)
  all_goals simp only [resOf, Tryz.results3, Tryz.ntmps3, go_sem, seval, eq_self, reduceCtorEq]

theorem cell_ty (x : V) (h : TyV Tryz.prog 90 x.cells) (ha : FormV Tryz.prog 90 x) : ∃ c, cellOf x = some c ∧ True := by
  obtain ⟨ls, e, hl, hf⟩ := h.struct_inv Tryz.underlying90
  match ls, hl with
  | [c0, c1, c2, c3, c4], _ =>
    obtain ⟨n0, rfl, _⟩ := ty_i64 (hf 0 _ _ rfl rfl)
    obtain ⟨i, hi, _⟩ := ty_ins (hf 1 _ _ rfl rfl)
    obtain ⟨n2, rfl, _⟩ := ty_i64 (hf 2 _ _ rfl rfl)
    obtain ⟨n3, rfl, _⟩ := ty_i64 (hf 3 _ _ rfl rfl)
    obtain ⟨n4, rfl, _⟩ := ty_i64 (hf 4 _ _ rfl rfl)
    simp only [Ins.v, V.agg.injEq] at hi
    subst hi
    have hx := ha.1 isAgg_90
    rw [e] at hx
    exact ⟨⟨n0, i, n2, n3, n4⟩, by rw [hx]; rfl, trivial⟩
theorem blk_ty (x : V) (h : TyV Tryz.prog 47 x.cells) (ha : FormV Tryz.prog 47 x) : ∃ b, sbOf x = some b ∧ sbFit b = true := by
  obtain ⟨ls, e, hl, hf⟩ := h.struct_inv Tryz.underlying47
  match ls, hl with
  | [c0, c1, c2, c3, c4, c5], _ =>
    obtain ⟨n0, rfl, _⟩ := ty_i64 (hf 0 _ _ rfl rfl)
    obtain ⟨n1, rfl, _⟩ := ty_i64 (hf 1 _ _ rfl rfl)
    obtain ⟨n2, rfl, _⟩ := ty_i64 (hf 2 _ _ rfl rfl)
    obtain ⟨n3, rfl, _⟩ := ty_i64 (hf 3 _ _ rfl rfl)
    obtain ⟨y4, m4, a, rfl, h1, h2, _, h4⟩ := ty_list (sz := 9) Tryz.underlying45 (by kernel_rfl) cell_ty (hf 4 _ _ rfl rfl)
    obtain ⟨y5, m5, b, rfl, h6, h7, _, h9⟩ := ty_list (sz := 9) Tryz.underlying45 (by kernel_rfl) cell_ty (hf 5 _ _ rfl rfl)
    have hx := ha.1 isAgg_47
    rw [e] at hx
    subst hx
    refine ⟨⟨n0, n1, n2, n3, a, b⟩, ?_, by unfold sbFit; simp only [Bool.and_eq_true, decide_eq_true_eq]; exact ⟨h4, h9⟩⟩
    simp only [List.flatten_cons, List.flatten_nil, List.cons_append, List.nil_append, sbOf, h1, h2, h6, h7, Option.bind_some]
theorem own_cells {l : List V} (h : TyV Tryz.prog 26 l) : ∃ o : List Int, l = o.map iv ∧ o.length = 16 := by
  obtain ⟨ls, e, hl, hf⟩ := h.array_inv Tryz.underlying26
  have key : ∀ ls : List (List V), (∀ l ∈ ls, TyV Tryz.prog 3 l) → ∃ o : List Int, ls.flatten = o.map iv ∧ o.length = ls.length := by
    intro ls
    induction ls with
    | nil => intro _; exact ⟨[], rfl, rfl⟩
    | cons l ls ih =>
      intro h
      obtain ⟨n, rfl, _⟩ := ty_i64 (h l (by simp))
      obtain ⟨o, h3, h4⟩ := ih fun l hl => h l (by simp [hl])
      exact ⟨n :: o, by rw [List.flatten_cons, h3]; rfl, by simp [h4]⟩
  obtain ⟨o, h1, h2⟩ := key ls hf
  exact ⟨o, by rw [e, h1], h2.trans hl⟩
/-- a split that came in -/
theorem ty_spl (x : V) (h : TyV Tryz.prog 29 x.cells) (ha : FormV Tryz.prog 29 x) : ∃ s, splOf x = some s ∧ sbsFit s.bl = true := by
  obtain ⟨ls, e, hl, hf⟩ := h.struct_inv Tryz.underlying29
  match ls, hl with
  | [c0, c1], _ =>
    obtain ⟨y0, m0, b, rfl, h1, h2, h3, h4⟩ := ty_list (sz := 6) Tryz.underlying27 (by kernel_rfl) blk_ty (hf 0 _ _ rfl rfl)
    obtain ⟨o, rfl, hol⟩ := own_cells (hf 1 _ _ rfl rfl)
    have hx := ha.1 isAgg_29
    rw [e] at hx
    subst hx
    refine ⟨⟨b, o⟩, ?_, by unfold sbsFit; simp only [Bool.and_eq_true, decide_eq_true_eq, List.all_eq_true]; exact ⟨h4, h3⟩⟩
    have ho : ownOf (.agg (o.map iv)) = some o := ownOf_v hol
    simp only [List.flatten_cons, List.flatten_nil, List.cons_append, List.nil_append, List.append_nil, splOf, sbsOf, h1, h2, ho, Option.bind_some]
theorem stells_ok {x y u v : V} (h : ∃ p, prgOf x = some p ∧ p.data.all byte = true ∧ (∀ i ∈ p.code, WfI i) ∧ p.code.length ≤ maxLen ∧ p.data.length ≤ maxLen) (k : ∃ o, ownOf y = some o ∧ ∀ n ∈ o, -9223372036854775808 ≤ n ∧ n < 9223372036854775808) (m : ∃ s, splOf u = some s ∧ sbsFit s.bl = true) (m' : ∃ s, splOf v = some s ∧ sbsFit s.bl = true) : spSTells.fn [x, y, u, v] = some (.s (.bool true)) := by
  obtain ⟨p, h1, _⟩ := h
  obtain ⟨o, k1, _⟩ := k
  obtain ⟨a, m1, m2⟩ := m
  obtain ⟨b, n1, n2⟩ := m'
  simp only [spSTells, h1, k1, m1, n1, Option.bind_some]
  rw [if_pos ⟨m2, n2⟩]
end Go.Proofs.YtalcmfmhifcaeaaGreat
