/-
Where blocks begin: blocks.Leaders and the reference's by the plain reckoning. No condition.
-/
import Derived.Test.YtkfmecmmbnehjaaGreatBa
import Derived.Test.YtkfmecmmbnehjaaGreatCc
namespace Go.Proofs.YtkfmecmmbnehjaaGreat
set_option linter.unusedSimpArgs false
set_option linter.unusedVariables false

def brB (i : Ins) : Bool := form i.op == 6 || form i.op == 7
def endB (i : Ins) : Bool := brB i || form i.op == 8
def tgt (p : Prg) (n : Nat) : Option Nat := (p.code[n]?).bind fun i => if brB i = true then some ((n : Int) + i.imm).toNat else none
theorem right_at {p : Prg} (h : rightP p = true) {k : Nat} {i : Ins} (hi : p.code[k]? = some i) : rightB i = true ∧ (brB i = true → 0 ≤ (k : Int) + i.imm ∧ (k : Int) + i.imm < p.code.length) := by
  simp only [rightP, Bool.and_eq_true, Bool.not_eq_true'] at h
  obtain ⟨⟨h1, h2⟩, h3⟩ := h
  refine ⟨List.all_eq_true.1 h2 i (List.mem_of_getElem? hi), fun hb => ?_⟩
  have hk : k < p.code.length := (List.getElem?_eq_some_iff.1 hi).1
  have : badAt p k = false := by
    cases hc : badAt p k with
    | false => rfl
    | true =>
      have : targsB p = true := List.any_eq_true.2 ⟨k, by simpa using hk, hc⟩
      rw [this] at h3; cases h3
  simp only [badAt, hi, badI] at this
  unfold brB at hb
  rw [hb] at this
  simp at this
  omega
theorem right_len {p : Prg} (h : rightP p = true) : 1 ≤ p.code.length ∧ p.code.length ≤ 2000 := by
  simp only [rightP, headB, Bool.and_eq_true, decide_eq_true_eq] at h
  omega
theorem target_v {p : Prg} (h : rightP p = true) {k : Nat} {i : Ins} (hi : p.code[k]? = some i) : spTarget.fn [p.v, .s (.int .i64 k)] = some (.tup [.s (.int .i64 (k + i.imm)), .s (.bool (brB i))]) := by
  have hf := right_fit (right_at h hi).1
  have hk : k < p.code.length := (List.getElem?_eq_some_iff.1 hi).1
  have hl := right_len h
  have h0 := hf.m0; have h1 := hf.m1
  simp only [spTarget, prgOf_v, Option.bind_some]
  rw [if_pos (by omega), Int.toNat_natCast, hi]
  simp only [Option.bind_some]
  rw [w_i64 (by omega) (by omega)]; rfl
theorem rtarget_v {p : Prg} (h : rightP p = true) {k : Nat} {i : Ins} (hi : p.code[k]? = some i) : spRTarget.fn [p.v, .s (.int .i64 k)] = some (.s (.int .i64 (if brB i = true then (k : Int) + i.imm else -1))) := by
  have hf := right_fit (right_at h hi).1
  have hk : k < p.code.length := (List.getElem?_eq_some_iff.1 hi).1
  have hl := right_len h
  have h0 := hf.m0; have h1 := hf.m1
  have h2 := (right_at h hi).2
  simp only [spRTarget, prgOf_v, Option.bind_some]
  rw [if_pos (by omega), Int.toNat_natCast, hi]
  have e : rT p.code.length k i = if brB i = true then (k : Int) + i.imm else -1 := by
    unfold rT
    by_cases hb : brB i = true
    · rw [if_pos hb, if_pos]
      have := h2 hb
      unfold brB at hb
      simp at hb
      exact ⟨hb, h0, h1, this.1, this.2⟩
    · rw [if_neg hb, if_neg]
      rintro ⟨h3, _⟩
      exact hb (by unfold brB; simp [h3])
  simp only [Option.bind_some, e]
theorem op_halt {i : Ins} (h : rightB i = true) : (i.op == 41) = (form i.op == 8) := by
  have hf := right_fit h
  have h0 := hf.op0; have h1 := hf.op1
  rw [Bool.eq_iff_iff]
  simp only [beq_iff_eq, form]
  (repeat' split) <;> omega

/-- what is found ahead of an instruction -/
def outL (p : Prg) : Nat → List Int
  | 0 => [0]
  | k + 1 => outL p k ++ (match p.code[k]? with
    | some i => (if brB i = true then [(k : Int) + i.imm] else []) ++ (if endB i = true ∧ k + 1 < p.code.length then [((k + 1 : Nat) : Int)] else [])
    | none => [])
theorem outL_len (p : Prg) (k : Nat) : 1 ≤ (outL p k).length ∧ (outL p k).length ≤ 1 + 2 * k := by
  induction k with
  | zero => simp [outL]
  | succ k ih =>
    rw [outL, List.length_append]
    split
    · rw [List.length_append]
      split <;> split <;> simp <;> omega
    · simp; omega
theorem outL_succ {p : Prg} {k : Nat} {i : Ins} (hi : p.code[k]? = some i) : outL p (k + 1) = outL p k ++ ((if brB i = true then [(k : Int) + i.imm] else []) ++ (if endB i = true ∧ k + 1 < p.code.length then [((k + 1 : Nat) : Int)] else [])) := by
  rw [outL, hi]

def leadC (p : Prg) : List Int := Lib.compact (sortI (outL p p.code.length))
def spLead : Spec := ⟨[], fun xs => match xs with
  | [x] => (prgOf x).bind fun p => some (if rightP p = true then .lst true 1 ((leadC p).map iv) else .s (.slice none 0 0))
  | _ => none⟩
theorem spLead_mv : spLead.mv = [] := rfl
def spLead1 : Spec := ⟨[], fun xs => match xs with
  | [x] => (prgOf x).bind fun p => some (if rightP p = true then .own 1 3 ((leadC p).map iv) else .s (.slice none 0 0))
  | _ => none⟩
def cB1 : Orc := upd (upd cImg8 103 (some spSort)) 104 (some spCompact)
theorem cB1_ok : ∀ g sp, cB1 g = some sp → Impl Tryz.prog g sp := orc_upd (orc_upd cImg8_ok sort_impl) compact_impl
theorem cB1_at : cB1 103 = some spSort ∧ cB1 104 = some spCompact ∧ cB1 71 = some spRightP ∧ cB1 79 = some spTarget := ⟨rfl, rfl, rfl, rfl⟩
theorem spSort_v {c : List Int} (h : c ≠ []) (hl : c.length ≤ 1000000) : spSort.fn [.own 1 3 (c.map iv)] = some (.io 0 (.tup []) (.own 1 3 ((sortI c).map iv))) := by
  simp only [spSort, mapM_of i64Of_v, Option.bind_some, if_pos (show c ≠ [] ∧ c.length ≤ 1000000 from ⟨h, hl⟩)]
theorem spCompact_v {c : List Int} (h : c ≠ []) (hl : c.length ≤ 1000000) : spCompact.fn [.own 1 3 (c.map iv)] = some (.own 1 3 ((Lib.compact c).map iv)) := by
  simp only [spCompact, mapM_of i64Of_v, Option.bind_some, if_pos (show c ≠ [] ∧ c.length ≤ 1000000 from ⟨h, hl⟩)]
def prgB (p : Prg) : List V := [.lst false 5 (p.code.map Ins.v), .s (.int .i64 p.size), .lst false 1 (p.data.map u8v)]
theorem scal_ints (l : List Int) : (l.map iv).all V.scal = true := by
  rw [List.all_eq_true]; intro x hx; obtain ⟨b, _, rfl⟩ := List.mem_map.1 hx; rfl
def leadI (p : Prg) (s : S) : Prop :=
  s.env 1 = .ptr 1 1 0 ∧ s.st 1 = ⟨1, .box (prgB p)⟩ ∧ s.env 13 = .lst false 5 (p.code.map Ins.v) ∧ s.env 14 = .s (.int .i64 p.code.length) ∧
  ∃ k v : Nat, s.env 15 = .s (.int .i64 k) ∧ k ≤ p.code.length ∧ s.env 3 = .sw 11 v (outL p k).length ∧ s.st 11 = ⟨v, .row 1 3 ((outL p k).map iv)⟩
set_option maxHeartbeats 4000000 in
theorem lead1_impl : Impl Tryz.prog 77 spLead1 := by
  refine impl_walk2 mixed cB1_ok eqT_ok Tryz.func77 rfl Tryz.ntmps77 (by kernel_rfl) ?_
  intro xs r h
  unfold spLead1 at h
  simp only at h
  (try split at h) <;> try (cases (show none = some r from h); done)
  rename_i x
  obtain ⟨p, hp, h3⟩ := Option.bind_eq_some_iff.1 h
  clear h
  refine ⟨_, (SeesL.cons (prgOf_sees hp) .nil).args, by simp, ?_⟩
  have hR := rightP_v p
  simp only [Prg.v] at hR
  cases c1 : rightP p
  · rw [c1] at hR h3
    cases h3
    simp only [go_sem, seval, eq_self, reduceCtorEq, Prg.v, cB1_at, spRightP_mv, hR]
    repeat' ((first | (refine AG_of ?_ ?_ <;> intro h) | (refine AB_of ?_ ?_ <;> intro h) | (refine A_draw_of [] [] (by kernel_rfl) ?_ <;> have h := mark)) <;> simp only [go_sem, seval, eq_self, reduceCtorEq, Prg.v, cB1_at, spRightP_mv, hR, h])
    all_goals (first | refine fin_ret ?_ | refine fin_normal ?_)
    all_goals simp only [resOf, Tryz.results77, Tryz.ntmps77, go_sem, seval, eq_self, reduceCtorEq]
    all_goals rfl
  rw [c1] at hR h3
  cases h3
  rw [if_pos rfl]
  have hpl := right_len c1
  simp only [go_sem, seval, eq_self, reduceCtorEq, Prg.v, cB1_at, spRightP_mv, hR, List.length_map]
  repeat' ((first | (refine AG_of ?_ ?_ <;> intro h) | (refine AB_of ?_ ?_ <;> intro h) | (refine A_draw_of [] [] (by kernel_rfl) ?_ <;> have h := mark)) <;> simp only [go_sem, seval, eq_self, reduceCtorEq, Prg.v, cB1_at, spRightP_mv, hR, List.length_map, h])
  refine A_loop (leadI p) (fun s => p.code.length - (numOf (s.env 15)).toNat) ?_ ?_
  · exact ⟨by simp [upd], by simp [upd, prgB, V.unfr, V.unfrL, V.cells], by simp [upd], by simp [upd], 0, 1, by simp [upd], by omega, by simp [upd, init, outL], by simp [upd, init, outL, iv]⟩
  intro s hs
  obtain ⟨e1, t1, e13, e14, k, v, e15, hk, e3, t11⟩ := hs
  have hol := outL_len p k
  rcases Nat.lt_or_ge k p.code.length with hlt | hge
  · obtain ⟨i, q⟩ : ∃ i, p.code[k]? = some i := ⟨p.code[k], List.getElem?_eq_getElem hlt⟩
    have g0 : decide ((k : Int) < p.code.length) = true := by simp; omega
    have z0 := Int.natCast_nonneg k
    have n2 : IntKind.i64.wrap ((k : Int) + 1) = (k + 1 : Nat) := by rw [w_i64 (by omega) (by omega)]; omega
    have hT := target_v c1 q
    have hop := op_halt (right_at c1 q).1
    have hos := outL_succ q
    have hso := scal_ints (outL p k)
    simp only [Prg.v] at hT
    obtain ⟨O, hO⟩ : ∃ O, outL p k = O := ⟨_, rfl⟩
    rw [hO] at hos e3 t11 hol hso
    have fl1 : (O.length + 1) * 8 ≤ 140737488355328 := by omega
    have fl2 : (O.length + 1 + 1) * 8 ≤ 140737488355328 := by omega
    cases hb : brB i
    · rw [hb] at hT
      cases h8 : (form i.op == 8)
      · rw [h8] at hop
        have hen : endB i = false := by unfold endB; rw [hb, h8]; rfl
        simp only [hb, hen, Bool.false_eq_true, if_false, false_and, List.append_nil] at hos
        simp only [go_sem, seval, eq_self, reduceCtorEq, e1, t1, e13, e14, e15, e3, t11, q, g0, z0, n2, hop, hT, prgB, Ins.v, cB1_at, spTarget_mv, Int.toNat_natCast, List.getElem?_map, List.length_map]
        repeat' ((first | (refine AG_of ?_ ?_ <;> intro h) | (refine AB_of ?_ ?_ <;> intro h) | (refine A_draw_of [] [] (by kernel_rfl) ?_ <;> have h := mark)) <;> simp only [go_sem, seval, eq_self, reduceCtorEq, e1, t1, e13, e14, e15, e3, t11, q, g0, z0, n2, hop, hT, prgB, Ins.v, cB1_at, spTarget_mv, Int.toNat_natCast, List.getElem?_map, List.length_map, h])
        exact ⟨⟨by simp [upd, e1], by simp [upd, t1, prgB], by simp [upd, e13, Ins.v], by simp [upd, e14], k + 1, v, by simp [upd], by omega, by simp [upd, e3, hos], by simp [upd, t11, hos]⟩, by simp [upd, numOf, e15]; omega⟩
      · rw [h8] at hop
        have hen : endB i = true := by unfold endB; rw [hb, h8]; rfl
        by_cases hd : k + 1 < p.code.length
        · have gd : decide (((k + 1 : Nat) : Int) < p.code.length) = true := by simp; omega
          simp only [hb, hen, hd, and_true, and_false, true_and, false_and, if_true, if_false, Bool.false_eq_true, List.nil_append, List.append_nil, List.cons_append, eq_self] at hos
          simp only [go_sem, seval, eq_self, reduceCtorEq, e1, t1, e13, e14, e15, e3, t11, q, g0, z0, n2, hop, hT, gd, fl1, prgB, Ins.v, cB1_at, spTarget_mv, Int.toNat_natCast, List.getElem?_map, List.length_map]
          repeat' ((first | (refine AG_of ?_ ?_ <;> intro h) | (refine AB_of ?_ ?_ <;> intro h) | (refine A_draw_of [] [] (by kernel_rfl) ?_ <;> have h := mark)) <;> simp only [go_sem, seval, eq_self, reduceCtorEq, e1, t1, e13, e14, e15, e3, t11, q, g0, z0, n2, hop, hT, gd, fl1, prgB, Ins.v, cB1_at, spTarget_mv, Int.toNat_natCast, List.getElem?_map, List.length_map, h])
          exact ⟨⟨by simp [upd, e1], by simp [upd, t1, prgB], by simp [upd, e13, Ins.v], by simp [upd, e14], k + 1, v + 1, by simp [upd], by omega, by simp [upd, hos], by simp [upd, hos, iv]⟩, by simp [upd, numOf, e15]; omega⟩
        · have gd : decide (((k + 1 : Nat) : Int) < p.code.length) = false := by simp; omega
          simp only [hb, hen, hd, and_true, and_false, true_and, false_and, if_true, if_false, Bool.false_eq_true, List.nil_append, List.append_nil, List.cons_append, eq_self] at hos
          simp only [go_sem, seval, eq_self, reduceCtorEq, e1, t1, e13, e14, e15, e3, t11, q, g0, z0, n2, hop, hT, gd, prgB, Ins.v, cB1_at, spTarget_mv, Int.toNat_natCast, List.getElem?_map, List.length_map]
          repeat' ((first | (refine AG_of ?_ ?_ <;> intro h) | (refine AB_of ?_ ?_ <;> intro h) | (refine A_draw_of [] [] (by kernel_rfl) ?_ <;> have h := mark)) <;> simp only [go_sem, seval, eq_self, reduceCtorEq, e1, t1, e13, e14, e15, e3, t11, q, g0, z0, n2, hop, hT, gd, prgB, Ins.v, cB1_at, spTarget_mv, Int.toNat_natCast, List.getElem?_map, List.length_map, h])
          exact ⟨⟨by simp [upd, e1], by simp [upd, t1, prgB], by simp [upd, e13, Ins.v], by simp [upd, e14], k + 1, v, by simp [upd], by omega, by simp [upd, e3, hos], by simp [upd, t11, hos]⟩, by simp [upd, numOf, e15]; omega⟩
    · rw [hb] at hT
      have hen : endB i = true := by unfold endB; rw [hb]; rfl
      by_cases hd : k + 1 < p.code.length
      · have gd : decide (((k + 1 : Nat) : Int) < p.code.length) = true := by simp; omega
        simp only [hb, hen, hd, and_true, and_false, true_and, false_and, if_true, if_false, Bool.false_eq_true, List.nil_append, List.append_nil, List.cons_append, eq_self] at hos
        simp only [go_sem, seval, eq_self, reduceCtorEq, e1, t1, e13, e14, e15, e3, t11, q, g0, z0, n2, hop, hT, gd, fl1, fl2, prgB, Ins.v, cB1_at, spTarget_mv, Int.toNat_natCast, List.getElem?_map, List.length_map, List.length_append]
        repeat' ((first | (refine AG_of ?_ ?_ <;> intro h) | (refine AB_of ?_ ?_ <;> intro h) | (refine A_draw_of [] [] (by kernel_rfl) ?_ <;> have h := mark)) <;> simp only [go_sem, seval, eq_self, reduceCtorEq, e1, t1, e13, e14, e15, e3, t11, q, g0, z0, n2, hop, hT, gd, fl1, fl2, prgB, Ins.v, cB1_at, spTarget_mv, Int.toNat_natCast, List.getElem?_map, List.length_map, List.length_append, h])
        exact ⟨⟨by simp [upd, e1], by simp [upd, t1, prgB], by simp [upd, e13, Ins.v], by simp [upd, e14], k + 1, v + 1 + 1, by simp [upd], by omega, by simp [upd, hos], by simp [upd, hos, iv]⟩, by simp [upd, numOf, e15]; omega⟩
      · have gd : decide (((k + 1 : Nat) : Int) < p.code.length) = false := by simp; omega
        simp only [hb, hen, hd, and_true, and_false, true_and, false_and, if_true, if_false, Bool.false_eq_true, List.nil_append, List.append_nil, List.cons_append, eq_self] at hos
        simp only [go_sem, seval, eq_self, reduceCtorEq, e1, t1, e13, e14, e15, e3, t11, q, g0, z0, n2, hop, hT, gd, fl1, prgB, Ins.v, cB1_at, spTarget_mv, Int.toNat_natCast, List.getElem?_map, List.length_map]
        repeat' ((first | (refine AG_of ?_ ?_ <;> intro h) | (refine AB_of ?_ ?_ <;> intro h) | (refine A_draw_of [] [] (by kernel_rfl) ?_ <;> have h := mark)) <;> simp only [go_sem, seval, eq_self, reduceCtorEq, e1, t1, e13, e14, e15, e3, t11, q, g0, z0, n2, hop, hT, gd, fl1, prgB, Ins.v, cB1_at, spTarget_mv, Int.toNat_natCast, List.getElem?_map, List.length_map, h])
        exact ⟨⟨by simp [upd, e1], by simp [upd, t1, prgB], by simp [upd, e13, Ins.v], by simp [upd, e14], k + 1, v + 1, by simp [upd], by omega, by simp [upd, hos], by simp [upd, hos, iv]⟩, by simp [upd, numOf, e15]; omega⟩
  · have hkl : k = p.code.length := by omega
    have g0 : decide ((k : Int) < p.code.length) = false := by simp; omega
    rw [hkl] at e3 t11 hol
    have hne : outL p p.code.length ≠ [] := by intro e; rw [e] at hol; simp at hol
    have hS := spSort_v hne (by omega)
    have hC := spCompact_v (c := sortI (outL p p.code.length)) (by intro e; have := sortI_len (outL p p.code.length); rw [e] at this; simp at this; omega) (by rw [sortI_len]; omega)
    have hs1 := scal_ints (outL p p.code.length)
    have hs2 := scal_ints (sortI (outL p p.code.length))
    have hl2 := sortI_len (outL p p.code.length)
    unfold leadC
    simp only [go_sem, seval, eq_self, reduceCtorEq, e1, t1, e13, e14, e15, e3, t11, g0, hS, hC, hs1, hs2, hl2, cB1_at, spSort_mv, spCompact_mv, List.length_map]
    repeat' ((first | (refine AG_of ?_ ?_ <;> intro h) | (refine AB_of ?_ ?_ <;> intro h) | (refine A_draw_of [] [] (by kernel_rfl) ?_ <;> have h := mark)) <;> simp only [go_sem, seval, eq_self, reduceCtorEq, e1, t1, e13, e14, e15, e3, t11, g0, hS, hC, hs1, hs2, hl2, cB1_at, spSort_mv, spCompact_mv, List.length_map, h])
    all_goals (first | refine fin_ret ?_ | refine fin_normal ?_)
    all_goals simp only [resOf, Tryz.results77, Tryz.ntmps77, go_sem, seval, eq_self, reduceCtorEq]
theorem lead_impl : Impl Tryz.prog 77 spLead := by
  have h := impl_lst lead1_impl
  refine ⟨h.1, fun xs r hx => h.2 xs r ?_⟩
  revert hx
  simp only [spLead, spLead1]
  split
  · intro hx
    obtain ⟨p, hp, h2⟩ := Option.bind_eq_some_iff.1 hx
    rw [hp]
    simp only [Option.bind_some, Option.map_some, Option.some.injEq] at h2 ⊢
    rw [← h2]
    split <;> rfl
  · intro hx; cases hx

end Go.Proofs.YtkfmecmmbnehjaaGreat
