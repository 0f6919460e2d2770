/-
How code is cut into blocks: blocks.Cut and the reference's by the plain reckoning. No condition.
-/
import Derived.Test.YtkfmecmmbnehjaaGreatBd
namespace Go.Proofs.YtkfmecmmbnehjaaGreat
set_option linter.unusedSimpArgs false
set_option linter.unusedVariables false

theorem idxL_at (v : Int) : ∀ (l : List Int) (k i : Nat), l[i]? = some v → (∀ j, j < i → l[j]? ≠ some v) → idxL v l k = ((k + i : Nat) : Int)
  | [], k, i, h, _ => by simp at h
  | a :: l, k, 0, h, _ => by
    simp at h
    simp [idxL, h]
  | a :: l, k, i + 1, h, h2 => by
    have h0 : a ≠ v := fun e => h2 0 (by omega) (by simp [e])
    rw [idxL, if_neg (by simpa using h0), idxL_at v l (k + 1) i (by simpa using h) (fun j hj => by have := h2 (j + 1) (by omega); simpa using this)]
    omega
theorem idxL_none (v : Int) : ∀ (l : List Int) (k : Nat), v ∉ l → idxL v l k = -1
  | [], _, _ => rfl
  | a :: l, k, h => by
    have h0 : a ≠ v := fun e => h (by simp [e])
    rw [idxL, if_neg (by simpa using h0), idxL_none v l (k + 1) (fun e => h (by simp [e]))]
theorem inc_get {l : List Int} (h : l.Pairwise (· < ·)) {i j : Nat} {a b : Int} (hi : l[i]? = some a) (hj : l[j]? = some b) (hij : i < j) : a < b := by
  obtain ⟨h1, rfl⟩ := List.getElem?_eq_some_iff.1 hi
  obtain ⟨h2, rfl⟩ := List.getElem?_eq_some_iff.1 hj
  exact List.pairwise_iff_getElem.1 h i j h1 h2 hij
theorem idx_inc {l : List Int} (h : l.Pairwise (· < ·)) {i : Nat} {a : Int} (hi : l[i]? = some a) : idxL a l 0 = i := by
  rw [idxL_at a l 0 i hi fun j hj e => by have := inc_get h e hi hj; omega]
  simp
theorem cnt_inc {l : List Int} (h : l.Pairwise (· < ·)) {i : Nat} {a : Int} (hi : l[i]? = some a) : l.countP (· < a) = i := by
  induction l generalizing i with
  | nil => simp at hi
  | cons b l ih =>
    rw [List.pairwise_cons] at h
    rw [List.countP_cons]
    cases i with
    | zero =>
      simp at hi
      subst hi
      have : l.countP (· < b) = 0 := by
        rw [List.countP_eq_zero]
        intro x hx
        have := h.1 x hx
        simp; omega
      rw [this]; simp
    | succ i =>
      have hi' : l[i]? = some a := by simpa using hi
      rw [ih h.2 hi']
      have := h.1 a (List.mem_of_getElem? hi')
      simp [this]
theorem mergeSort_inc {l : List Int} (h : l.Pairwise (· < ·)) : (l.mergeSort fun x y => decide (x ≤ y)) = l := by
  apply List.mergeSort_of_pairwise
  exact h.imp fun h => by simp; omega
theorem lead_bd {p : Prg} {x : Int} (h : x ∈ leadL p) : 0 ≤ x ∧ x < p.code.length := by
  unfold leadL at h
  obtain ⟨k, hk, rfl⟩ := List.mem_map.1 h
  have := List.mem_range.1 (List.mem_filter.1 hk).1
  omega
theorem lead_tgt {p : Prg} (hr : rightP p = true) {n t : Nat} {i : Ins} (hi : p.code[n]? = some i) (hb : brB i = true) (ht : (n : Int) + i.imm = t) : (t : Int) ∈ leadL p := by
  have h1 := (right_at hr hi).2 hb
  have hn : n < p.code.length := (List.getElem?_eq_some_iff.1 hi).1
  unfold leadL
  refine List.mem_map.2 ⟨t, List.mem_filter.2 ⟨by simp; omega, ?_⟩, rfl⟩
  unfold isLead flagAt
  have : (List.range p.code.length).any (fun n => tgt p n == some t) = true := by
    refine List.any_eq_true.2 ⟨n, by simpa using hn, ?_⟩
    unfold tgt
    rw [hi]
    simp [hb, ht]
  rw [this]; simp
theorem search_v {l : List Int} (h : l.Pairwise (· < ·)) (hl : l.length ≤ 1000000) {a : Int} (ha : a ∈ l) (k : Bool) : spSearch.fn [.lst k 1 (l.map iv), .s (.int .i64 a)] = some (.tup [.s (.int .i64 (idxL a l 0)), .s (.bool true)]) := by
  obtain ⟨i, hi, rfl⟩ := List.getElem_of_mem ha
  have hg : l[i]? = some l[i] := List.getElem?_eq_getElem hi
  simp only [spSearch, mapM_of i64Of_v, Option.bind_some]
  rw [if_pos ⟨hl, mergeSort_inc h⟩, cnt_inc h hg, idx_inc h hg]
  simp
theorem op_jump {i : Ins} (h : rightB i = true) : (i.op == 40) = (form i.op == 7) := by
  have hf := right_fit h
  have h0 := hf.op0; have h1 := hf.op1
  rw [Bool.eq_iff_iff]
  simp only [beq_iff_eq, form]
  (repeat' split) <;> omega
theorem op_jump2 {i : Ins} (h : rightB i = true) : (i.op != 40) = (form i.op != 7) := by
  unfold bne; rw [op_jump h]
theorem op_halt2 {i : Ins} (h : rightB i = true) : (i.op != 41) = (form i.op != 8) := by
  unfold bne; rw [op_halt h]

structure Blk4 where
  from_ : Int
  to_ : Int
  next : Int
  taken : Int
def Blk4.v (b : Blk4) : V := .agg [.s (.int .i64 b.from_), .s (.int .i64 b.to_), .s (.int .i64 b.next), .s (.int .i64 b.taken), .s (.slice none 0 0), .s (.slice none 0 0)]
def formAt (p : Prg) (n : Nat) : Int := match p.code[n]? with
  | some i => form i.op
  | none => 0
def toAt (p : Prg) (l : List Int) (i : Nat) : Int := if i + 1 < l.length then l.getD (i + 1) 0 else p.code.length
def blkAt (p : Prg) (l : List Int) (i : Nat) : Blk4 :=
  let e := (toAt p l i - 1).toNat
  ⟨l.getD i 0, toAt p l i, if i + 1 < l.length ∧ formAt p e ≠ 7 ∧ formAt p e ≠ 8 then ((i + 1 : Nat) : Int) else -1, match tgt p e with
    | some t => idxL t l 0
    | none => -1⟩
def cutF (p : Prg) (k : Nat) : List Blk4 := (List.range k).map (blkAt p (leadL p))
def cutL (p : Prg) : List Blk4 := cutF p (leadL p).length
theorem cutF_succ (p : Prg) (k : Nat) : cutF p (k + 1) = cutF p k ++ [blkAt p (leadL p) k] := by
  unfold cutF
  rw [List.range_succ, List.map_append]; rfl
theorem blkAt_eq {p : Prg} {l : List Int} {i E : Nat} {a tt : Int} {x : Ins} (ha : l[i]? = some a) (hto : toAt p l i = tt) (hE : tt = ((E + 1 : Nat) : Int)) (hx : p.code[E]? = some x) :
    blkAt p l i = ⟨a, tt, if i + 1 < l.length ∧ form x.op ≠ 7 ∧ form x.op ≠ 8 then ((i + 1 : Nat) : Int) else -1, if brB x = true then idxL ((E : Int) + x.imm).toNat l 0 else -1⟩ := by
  have e1 : (tt - 1).toNat = E := by rw [hE]; omega
  unfold blkAt
  simp only [hto, e1]
  have e2 : formAt p E = form x.op := by unfold formAt; rw [hx]
  have e3 : tgt p E = if brB x = true then some ((E : Int) + x.imm).toNat else none := by unfold tgt; rw [hx]; rfl
  have e4 : l.getD i 0 = a := by rw [List.getD_eq_getElem?_getD, ha]; rfl
  rw [e2, e3, e4]
  by_cases hb : brB x = true
  · rw [if_pos hb, if_pos hb]
  · rw [if_neg hb, if_neg hb]
def RowG (x : V) (b : Nat) (k : Blk) (sz e : Nat) (l : List V) : Prop :=
  (l = [] ∧ x = .s (.slice none 0 0)) ∨ (l ≠ [] ∧ ∃ v, x = .sw b v l.length ∧ k = ⟨v, .row sz e l⟩)
theorem RowG.same {x x' : V} {b : Nat} {k k' : Blk} {sz e : Nat} {l : List V} (h : RowG x b k sz e l) (hx : x' = x) (hk : k' = k) : RowG x' b k' sz e l := by rw [hx, hk]; exact h
theorem scal_blk (l : List Blk4) : (l.map Blk4.v).all V.scal = true := by
  rw [List.all_eq_true]; intro x hx; obtain ⟨b, _, rfl⟩ := List.mem_map.1 hx; rfl
theorem leadL_ne {p : Prg} (h : rightP p = true) : leadL p ≠ [] := by
  have := right_len h
  have hm : (0 : Int) ∈ leadL p := by
    unfold leadL
    exact List.mem_map.2 ⟨0, List.mem_filter.2 ⟨by simp; omega, by simp [isLead, flagAt]⟩, rfl⟩
  intro e; rw [e] at hm; cases hm
theorem leadL_len (p : Prg) : (leadL p).length ≤ p.code.length := by
  have := firstL_len p p.code.length
  exact this

def spCut1 : Spec := ⟨[], fun xs => match xs with
  | [x] => (prgOf x).bind fun p => some (if rightP p = true then .own 6 24 ((cutL p).map Blk4.v) else .s (.slice none 0 0))
  | _ => none⟩
def cB3 : Orc := upd (upd (upd (upd cB1 77 (some spLead)) 59 (some spLead)) 46 (some spIndexI)) 80 (some spSearch)
theorem cB3_ok : ∀ g sp, cB3 g = some sp → Impl Tryz.prog g sp := orc_upd (orc_upd (orc_upd (orc_upd cB1_ok lead_impl) rlead_impl) find_impl) search_impl
theorem cB3_at : cB3 77 = some spLead ∧ cB3 59 = some spLead ∧ cB3 46 = some spIndexI ∧ cB3 80 = some spSearch ∧ cB3 79 = some spTarget ∧ cB3 60 = some spRTarget ∧ cB3 78 = some spForm := ⟨rfl, rfl, rfl, rfl, rfl, rfl, rfl⟩

def cutI (p : Prg) (s : S) : Prop :=
  s.env 1 = .ptr 1 1 0 ∧ s.st 1 = ⟨1, .box (prgB p)⟩ ∧ s.env 3 = .lst true 1 ((leadL p).map iv) ∧ s.env 13 = .lst true 1 ((leadL p).map iv) ∧ s.env 14 = .s (.int .i64 (leadL p).length) ∧ 
  ∃ k : Nat, s.env 15 = .s (.int .i64 k) ∧ k ≤ (leadL p).length ∧ RowG (s.env 4) 80 (s.st 80) 6 24 ((cutF p k).map Blk4.v)
set_option maxRecDepth 4000 in
set_option maxHeartbeats 8000000 in
theorem cut1_impl : Impl Tryz.prog 48 spCut1 := by
  refine impl_walk2 mixed cB3_ok eqT_ok Tryz.func48 rfl Tryz.ntmps48 (by kernel_rfl) ?_
  intro xs r h
  unfold spCut1 at h
  simp only at h
  (try split at h) <;> try (cases (show none = some r from h); done)
  rename_i x
  obtain ⟨p, hp, h3⟩ := Option.bind_eq_some_iff.1 h
  clear h
  refine ⟨_, (SeesL.cons (prgOf_sees hp) .nil).args, by simp, ?_⟩
  have hL := spLead_v p
  simp only [Prg.v] at hL
  cases c1 : rightP p
  · rw [c1] at hL h3
    simp only [Bool.false_eq_true, if_false] at hL
    cases h3
    simp only [go_sem, seval, eq_self, reduceCtorEq, Prg.v, cB3_at, spLead_mv, hL]
    repeat' ((first | (refine AG_of ?_ ?_ <;> intro h) | (refine AB_of ?_ ?_ <;> intro h) | (refine A_draw_of [] [] (by kernel_rfl) ?_ <;> have h := mark)) <;> simp only [go_sem, seval, eq_self, reduceCtorEq, Prg.v, cB3_at, spLead_mv, hL, h])
    refine A_round ?_
    simp only [go_sem, seval, eq_self, reduceCtorEq, hL]
    repeat' ((first | (refine AG_of ?_ ?_ <;> intro h) | (refine AB_of ?_ ?_ <;> intro h) | (refine A_draw_of [] [] (by kernel_rfl) ?_ <;> have h := mark)) <;> simp only [go_sem, seval, eq_self, reduceCtorEq, hL, h])
    all_goals (first | refine fin_ret ?_ | refine fin_normal ?_)
    all_goals simp only [resOf, Tryz.results48, Tryz.ntmps48, go_sem, seval, eq_self, reduceCtorEq]
    all_goals rfl
  rw [c1] at hL h3
  cases h3
  simp only [if_true] at hL
  rw [if_pos rfl]
  have hpl := right_len c1
  have hinc := leadL_inc p
  have hll := leadL_len p
  have hbd : ∀ x ∈ leadL p, 0 ≤ x ∧ x < p.code.length := fun x hx => lead_bd hx
  have htg := fun {n t : Nat} {i : Ins} (hi : p.code[n]? = some i) (hb : brB i = true) (ht : (n : Int) + i.imm = t) => lead_tgt c1 hi hb ht
  simp only [go_sem, seval, eq_self, reduceCtorEq, Prg.v, cB3_at, spLead_mv, hL, List.length_map]
  repeat' ((first | (refine AG_of ?_ ?_ <;> intro h) | (refine AB_of ?_ ?_ <;> intro h) | (refine A_draw_of [] [] (by kernel_rfl) ?_ <;> have h := mark)) <;> simp only [go_sem, seval, eq_self, reduceCtorEq, Prg.v, cB3_at, spLead_mv, hL, List.length_map, h])
  refine A_loop (cutI p) (fun s => (leadL p).length - (numOf (s.env 15)).toNat) ?_ ?_
  · exact ⟨by simp [upd], by simp [upd, prgB, V.unfr, V.unfrL, V.cells], by simp [upd], by simp [upd], by simp [upd], 0, by simp [upd], by omega, .inl ⟨rfl, by simp [upd]⟩⟩
  intro s hs
  obtain ⟨e1, t1, e3, e13, e14, k, ek, hk, hr⟩ := hs
  have hcs := cutF_succ p k
  have hcl : (cutF p k).length = k := by simp [cutF]
  have hsc := scal_blk (cutF p k)
  unfold cutL
  have hlne := leadL_ne c1
  obtain ⟨l, hle⟩ : ∃ l, leadL p = l := ⟨_, rfl⟩
  rw [hle] at e13 e14 hk hcs hinc hll hbd htg hlne e3 ⊢
  rcases Nat.lt_or_ge k l.length with hlt | hge
  · obtain ⟨a, q⟩ : ∃ i, l[k]? = some i := ⟨l[k], List.getElem?_eq_getElem hlt⟩
    have g0 : decide ((k : Int) < l.length) = true := by simp; omega
    have z0 := Int.natCast_nonneg k
    have z1 := Int.natCast_nonneg (k + 1)
    have n2 : IntKind.i64.wrap ((k : Int) + 1) = (k + 1 : Nat) := by rw [w_i64 (by omega) (by omega)]; omega
    have hab := hbd a (List.mem_of_getElem? q)
    obtain ⟨O, hO⟩ : ∃ O, (cutF p k).map Blk4.v = O := ⟨_, rfl⟩
    have hOl : O.length = k := by rw [← hO, List.length_map, hcl]
    have fl : (k + 1) * 80 ≤ 140737488355328 := by omega
    rw [hO] at hr hsc
    have hcs2 : (cutF p (k + 1)).map Blk4.v = O ++ [(blkAt p l k).v] := by rw [hcs, List.map_append, hO]; rfl
    rcases Nat.lt_or_ge (k + 1) l.length with hn | hn
    · obtain ⟨b, qn⟩ : ∃ i, l[k + 1]? = some i := ⟨l[k + 1], List.getElem?_eq_getElem hn⟩
      have hbb0 := hbd b (List.mem_of_getElem? qn)
      have hlt2 := inc_get hinc q qn (by omega)
      obtain ⟨E, rfl⟩ : ∃ E : Nat, b = ((E + 1 : Nat) : Int) := ⟨(b - 1).toNat, by omega⟩
      have hto : toAt p l k = ((E + 1 : Nat) : Int) := by unfold toAt; rw [if_pos hn, List.getD_eq_getElem?_getD, qn]; rfl
      have hEt : ((E + 1 : Nat) : Int) = ((E + 1 : Nat) : Int) := rfl
      have gn0 : decide (((k + 1 : Nat) : Int) < l.length) = true := by simp; omega
      have wE : IntKind.i64.wrap (((E + 1 : Nat) : Int) - 1) = (E : Nat) := by rw [w_i64 (by omega) (by omega)]; omega
      have zE := Int.natCast_nonneg E
      obtain ⟨x, qx⟩ : ∃ x, p.code[E]? = some x := ⟨p.code[E]'(by omega), List.getElem?_eq_getElem (by omega)⟩
      have hxr := (right_at c1 qx).1
      have hxb := (right_at c1 qx).2
      have hT := target_v c1 qx
      simp only [Prg.v] at hT
      by_cases hf7 : form x.op = 7
      · have hf8 : ¬ form x.op = 8 := by omega
        have hb : brB x = true := by unfold brB; simp [hf7]
        have hf7b : (form x.op != 7) = false := by simp [hf7]
        have hf8b : (form x.op != 8) = true := by simp [hf8]
        have hbe := blkAt_eq q hto hEt qx
        obtain ⟨tn, htn⟩ : ∃ t : Nat, (E : Int) + x.imm = t := ⟨((E : Int) + x.imm).toNat, by have := hxb hb; omega⟩
        have hmem := htg qx hb htn
        have hS := search_v hinc (by omega) hmem false
        rw [htn] at hT hbe
        rw [Int.toNat_natCast] at hbe
        simp only [hn, hb, hf7, hf8, and_true, and_false, true_and, false_and, ne_eq, not_true_eq_false, not_false_eq_true, if_true, if_false, Bool.false_eq_true] at hbe hT
        rw [hbe] at hcs2
        rcases hr with ⟨hl0, hx⟩ | ⟨hl0, v, hx, hbb⟩
        ·
          simp only [go_sem, seval, eq_self, reduceCtorEq, e1, t1, e3, e13, e14, ek, q, g0, z0, z1, n2, prgB, iv, Ins.v, cB3_at, spTarget_mv, spSearch_mv, spForm_mv, spForm_fn, List.length_map, List.getElem?_map, Int.toNat_natCast, bne_self_eq_false, hT, gn0, qn, qx, wE, zE, hS, hf7b, hf8b, hx]
          repeat' ((first | (refine AG_of ?_ ?_ <;> intro h) | (refine AB_of ?_ ?_ <;> intro h) | (refine A_draw_of [] [] (by kernel_rfl) ?_ <;> have h := mark)) <;> simp only [go_sem, seval, eq_self, reduceCtorEq, e1, t1, e3, e13, e14, ek, q, g0, z0, z1, n2, prgB, iv, Ins.v, cB3_at, spTarget_mv, spSearch_mv, spForm_mv, spForm_fn, List.length_map, List.getElem?_map, Int.toNat_natCast, bne_self_eq_false, hT, gn0, qn, qx, wE, zE, hS, hf7b, hf8b, hx, h])
          exact ⟨⟨by simp [upd, e1], by simp [upd, t1, prgB], by simp [upd, e3, hle], by simp [upd, e13, hle], by simp [upd, e14, hle], k + 1, by simp [upd], by rw [hle]; omega, by rw [hcs2, hl0]; exact .inr ⟨by simp, (s.st 80).ver + 1, by simp [upd], by simp [upd, Blk4.v]⟩⟩, by simp [upd, numOf, ek]; omega⟩
        ·
          simp only [go_sem, seval, eq_self, reduceCtorEq, e1, t1, e3, e13, e14, ek, q, g0, z0, z1, n2, prgB, iv, Ins.v, cB3_at, spTarget_mv, spSearch_mv, spForm_mv, spForm_fn, List.length_map, List.getElem?_map, Int.toNat_natCast, bne_self_eq_false, hT, gn0, qn, qx, wE, zE, hS, hf7b, hf8b, hx, hbb, hOl, fl]
          repeat' ((first | (refine AG_of ?_ ?_ <;> intro h) | (refine AB_of ?_ ?_ <;> intro h) | (refine A_draw_of [] [] (by kernel_rfl) ?_ <;> have h := mark)) <;> simp only [go_sem, seval, eq_self, reduceCtorEq, e1, t1, e3, e13, e14, ek, q, g0, z0, z1, n2, prgB, iv, Ins.v, cB3_at, spTarget_mv, spSearch_mv, spForm_mv, spForm_fn, List.length_map, List.getElem?_map, Int.toNat_natCast, bne_self_eq_false, hT, gn0, qn, qx, wE, zE, hS, hf7b, hf8b, hx, hbb, hOl, fl, h])
          exact ⟨⟨by simp [upd, e1], by simp [upd, t1, prgB], by simp [upd, e3, hle], by simp [upd, e13, hle], by simp [upd, e14, hle], k + 1, by simp [upd], by rw [hle]; omega, by rw [hcs2]; exact .inr ⟨by simp, v + 1, by simp [upd, hOl], by simp [upd, Blk4.v]⟩⟩, by simp [upd, numOf, ek]; omega⟩
      by_cases hf8 : form x.op = 8
      · have hb : brB x = false := by unfold brB; simp [hf8]
        have hf7b : (form x.op != 7) = true := by simp [hf7]
        have hf8b : (form x.op != 8) = false := by simp [hf8]
        have hbe := blkAt_eq q hto hEt qx
        simp only [hn, hb, hf7, hf8, and_true, and_false, true_and, false_and, ne_eq, not_true_eq_false, not_false_eq_true, if_true, if_false, Bool.false_eq_true] at hbe hT
        rw [hbe] at hcs2
        rcases hr with ⟨hl0, hx⟩ | ⟨hl0, v, hx, hbb⟩
        ·
          simp only [go_sem, seval, eq_self, reduceCtorEq, e1, t1, e3, e13, e14, ek, q, g0, z0, z1, n2, prgB, iv, Ins.v, cB3_at, spTarget_mv, spSearch_mv, spForm_mv, spForm_fn, List.length_map, List.getElem?_map, Int.toNat_natCast, bne_self_eq_false, hT, gn0, qn, qx, wE, zE, hf7b, hf8b, hx]
          repeat' ((first | (refine AG_of ?_ ?_ <;> intro h) | (refine AB_of ?_ ?_ <;> intro h) | (refine A_draw_of [] [] (by kernel_rfl) ?_ <;> have h := mark)) <;> simp only [go_sem, seval, eq_self, reduceCtorEq, e1, t1, e3, e13, e14, ek, q, g0, z0, z1, n2, prgB, iv, Ins.v, cB3_at, spTarget_mv, spSearch_mv, spForm_mv, spForm_fn, List.length_map, List.getElem?_map, Int.toNat_natCast, bne_self_eq_false, hT, gn0, qn, qx, wE, zE, hf7b, hf8b, hx, h])
          exact ⟨⟨by simp [upd, e1], by simp [upd, t1, prgB], by simp [upd, e3, hle], by simp [upd, e13, hle], by simp [upd, e14, hle], k + 1, by simp [upd], by rw [hle]; omega, by rw [hcs2, hl0]; exact .inr ⟨by simp, (s.st 80).ver + 1, by simp [upd], by simp [upd, Blk4.v]⟩⟩, by simp [upd, numOf, ek]; omega⟩
        ·
          simp only [go_sem, seval, eq_self, reduceCtorEq, e1, t1, e3, e13, e14, ek, q, g0, z0, z1, n2, prgB, iv, Ins.v, cB3_at, spTarget_mv, spSearch_mv, spForm_mv, spForm_fn, List.length_map, List.getElem?_map, Int.toNat_natCast, bne_self_eq_false, hT, gn0, qn, qx, wE, zE, hf7b, hf8b, hx, hbb, hOl, fl]
          repeat' ((first | (refine AG_of ?_ ?_ <;> intro h) | (refine AB_of ?_ ?_ <;> intro h) | (refine A_draw_of [] [] (by kernel_rfl) ?_ <;> have h := mark)) <;> simp only [go_sem, seval, eq_self, reduceCtorEq, e1, t1, e3, e13, e14, ek, q, g0, z0, z1, n2, prgB, iv, Ins.v, cB3_at, spTarget_mv, spSearch_mv, spForm_mv, spForm_fn, List.length_map, List.getElem?_map, Int.toNat_natCast, bne_self_eq_false, hT, gn0, qn, qx, wE, zE, hf7b, hf8b, hx, hbb, hOl, fl, h])
          exact ⟨⟨by simp [upd, e1], by simp [upd, t1, prgB], by simp [upd, e3, hle], by simp [upd, e13, hle], by simp [upd, e14, hle], k + 1, by simp [upd], by rw [hle]; omega, by rw [hcs2]; exact .inr ⟨by simp, v + 1, by simp [upd, hOl], by simp [upd, Blk4.v]⟩⟩, by simp [upd, numOf, ek]; omega⟩
      have hf7b : (form x.op != 7) = true := by simp [hf7]
      have hf8b : (form x.op != 8) = true := by simp [hf8]
      cases hb : brB x
      ·
        have hbe := blkAt_eq q hto hEt qx
        simp only [hn, hb, hf7, hf8, and_true, and_false, true_and, false_and, ne_eq, not_true_eq_false, not_false_eq_true, if_true, if_false, Bool.false_eq_true] at hbe hT
        rw [hbe] at hcs2
        rcases hr with ⟨hl0, hx⟩ | ⟨hl0, v, hx, hbb⟩
        ·
          simp only [go_sem, seval, eq_self, reduceCtorEq, e1, t1, e3, e13, e14, ek, q, g0, z0, z1, n2, prgB, iv, Ins.v, cB3_at, spTarget_mv, spSearch_mv, spForm_mv, spForm_fn, List.length_map, List.getElem?_map, Int.toNat_natCast, bne_self_eq_false, hT, gn0, qn, qx, wE, zE, hf7b, hf8b, hx]
          repeat' ((first | (refine AG_of ?_ ?_ <;> intro h) | (refine AB_of ?_ ?_ <;> intro h) | (refine A_draw_of [] [] (by kernel_rfl) ?_ <;> have h := mark)) <;> simp only [go_sem, seval, eq_self, reduceCtorEq, e1, t1, e3, e13, e14, ek, q, g0, z0, z1, n2, prgB, iv, Ins.v, cB3_at, spTarget_mv, spSearch_mv, spForm_mv, spForm_fn, List.length_map, List.getElem?_map, Int.toNat_natCast, bne_self_eq_false, hT, gn0, qn, qx, wE, zE, hf7b, hf8b, hx, h])
          exact ⟨⟨by simp [upd, e1], by simp [upd, t1, prgB], by simp [upd, e3, hle], by simp [upd, e13, hle], by simp [upd, e14, hle], k + 1, by simp [upd], by rw [hle]; omega, by rw [hcs2, hl0]; exact .inr ⟨by simp, (s.st 80).ver + 1, by simp [upd], by simp [upd, Blk4.v]⟩⟩, by simp [upd, numOf, ek]; omega⟩
        ·
          simp only [go_sem, seval, eq_self, reduceCtorEq, e1, t1, e3, e13, e14, ek, q, g0, z0, z1, n2, prgB, iv, Ins.v, cB3_at, spTarget_mv, spSearch_mv, spForm_mv, spForm_fn, List.length_map, List.getElem?_map, Int.toNat_natCast, bne_self_eq_false, hT, gn0, qn, qx, wE, zE, hf7b, hf8b, hx, hbb, hOl, fl]
          repeat' ((first | (refine AG_of ?_ ?_ <;> intro h) | (refine AB_of ?_ ?_ <;> intro h) | (refine A_draw_of [] [] (by kernel_rfl) ?_ <;> have h := mark)) <;> simp only [go_sem, seval, eq_self, reduceCtorEq, e1, t1, e3, e13, e14, ek, q, g0, z0, z1, n2, prgB, iv, Ins.v, cB3_at, spTarget_mv, spSearch_mv, spForm_mv, spForm_fn, List.length_map, List.getElem?_map, Int.toNat_natCast, bne_self_eq_false, hT, gn0, qn, qx, wE, zE, hf7b, hf8b, hx, hbb, hOl, fl, h])
          exact ⟨⟨by simp [upd, e1], by simp [upd, t1, prgB], by simp [upd, e3, hle], by simp [upd, e13, hle], by simp [upd, e14, hle], k + 1, by simp [upd], by rw [hle]; omega, by rw [hcs2]; exact .inr ⟨by simp, v + 1, by simp [upd, hOl], by simp [upd, Blk4.v]⟩⟩, by simp [upd, numOf, ek]; omega⟩
      ·
        have hbe := blkAt_eq q hto hEt qx
        obtain ⟨tn, htn⟩ : ∃ t : Nat, (E : Int) + x.imm = t := ⟨((E : Int) + x.imm).toNat, by have := hxb hb; omega⟩
        have hmem := htg qx hb htn
        have hS := search_v hinc (by omega) hmem false
        rw [htn] at hT hbe
        rw [Int.toNat_natCast] at hbe
        simp only [hn, hb, hf7, hf8, and_true, and_false, true_and, false_and, ne_eq, not_true_eq_false, not_false_eq_true, if_true, if_false, Bool.false_eq_true] at hbe hT
        rw [hbe] at hcs2
        rcases hr with ⟨hl0, hx⟩ | ⟨hl0, v, hx, hbb⟩
        ·
          simp only [go_sem, seval, eq_self, reduceCtorEq, e1, t1, e3, e13, e14, ek, q, g0, z0, z1, n2, prgB, iv, Ins.v, cB3_at, spTarget_mv, spSearch_mv, spForm_mv, spForm_fn, List.length_map, List.getElem?_map, Int.toNat_natCast, bne_self_eq_false, hT, gn0, qn, qx, wE, zE, hS, hf7b, hf8b, hx]
          repeat' ((first | (refine AG_of ?_ ?_ <;> intro h) | (refine AB_of ?_ ?_ <;> intro h) | (refine A_draw_of [] [] (by kernel_rfl) ?_ <;> have h := mark)) <;> simp only [go_sem, seval, eq_self, reduceCtorEq, e1, t1, e3, e13, e14, ek, q, g0, z0, z1, n2, prgB, iv, Ins.v, cB3_at, spTarget_mv, spSearch_mv, spForm_mv, spForm_fn, List.length_map, List.getElem?_map, Int.toNat_natCast, bne_self_eq_false, hT, gn0, qn, qx, wE, zE, hS, hf7b, hf8b, hx, h])
          exact ⟨⟨by simp [upd, e1], by simp [upd, t1, prgB], by simp [upd, e3, hle], by simp [upd, e13, hle], by simp [upd, e14, hle], k + 1, by simp [upd], by rw [hle]; omega, by rw [hcs2, hl0]; exact .inr ⟨by simp, (s.st 80).ver + 1, by simp [upd], by simp [upd, Blk4.v]⟩⟩, by simp [upd, numOf, ek]; omega⟩
        ·
          simp only [go_sem, seval, eq_self, reduceCtorEq, e1, t1, e3, e13, e14, ek, q, g0, z0, z1, n2, prgB, iv, Ins.v, cB3_at, spTarget_mv, spSearch_mv, spForm_mv, spForm_fn, List.length_map, List.getElem?_map, Int.toNat_natCast, bne_self_eq_false, hT, gn0, qn, qx, wE, zE, hS, hf7b, hf8b, hx, hbb, hOl, fl]
          repeat' ((first | (refine AG_of ?_ ?_ <;> intro h) | (refine AB_of ?_ ?_ <;> intro h) | (refine A_draw_of [] [] (by kernel_rfl) ?_ <;> have h := mark)) <;> simp only [go_sem, seval, eq_self, reduceCtorEq, e1, t1, e3, e13, e14, ek, q, g0, z0, z1, n2, prgB, iv, Ins.v, cB3_at, spTarget_mv, spSearch_mv, spForm_mv, spForm_fn, List.length_map, List.getElem?_map, Int.toNat_natCast, bne_self_eq_false, hT, gn0, qn, qx, wE, zE, hS, hf7b, hf8b, hx, hbb, hOl, fl, h])
          exact ⟨⟨by simp [upd, e1], by simp [upd, t1, prgB], by simp [upd, e3, hle], by simp [upd, e13, hle], by simp [upd, e14, hle], k + 1, by simp [upd], by rw [hle]; omega, by rw [hcs2]; exact .inr ⟨by simp, v + 1, by simp [upd, hOl], by simp [upd, Blk4.v]⟩⟩, by simp [upd, numOf, ek]; omega⟩
    · have hn' : ¬ k + 1 < l.length := by omega
      obtain ⟨E, hEt⟩ : ∃ E : Nat, (p.code.length : Int) = ((E + 1 : Nat) : Int) := ⟨p.code.length - 1, by omega⟩
      have hto : toAt p l k = (p.code.length : Int) := by unfold toAt; rw [if_neg hn']
      have gn0 : decide (((k + 1 : Nat) : Int) < l.length) = false := by simp; omega
      have wE : IntKind.i64.wrap ((p.code.length : Int) - 1) = (E : Nat) := by rw [w_i64 (by omega) (by omega)]; omega
      have zE := Int.natCast_nonneg E
      obtain ⟨x, qx⟩ : ∃ x, p.code[E]? = some x := ⟨p.code[E]'(by omega), List.getElem?_eq_getElem (by omega)⟩
      have hxr := (right_at c1 qx).1
      have hxb := (right_at c1 qx).2
      have hT := target_v c1 qx
      simp only [Prg.v] at hT
      by_cases hf7 : form x.op = 7
      · have hf8 : ¬ form x.op = 8 := by omega
        have hb : brB x = true := by unfold brB; simp [hf7]
        have hf7b : (form x.op != 7) = false := by simp [hf7]
        have hf8b : (form x.op != 8) = true := by simp [hf8]
        have hbe := blkAt_eq q hto hEt qx
        obtain ⟨tn, htn⟩ : ∃ t : Nat, (E : Int) + x.imm = t := ⟨((E : Int) + x.imm).toNat, by have := hxb hb; omega⟩
        have hmem := htg qx hb htn
        have hS := search_v hinc (by omega) hmem false
        rw [htn] at hT hbe
        rw [Int.toNat_natCast] at hbe
        simp only [hn', hb, hf7, hf8, and_true, and_false, true_and, false_and, ne_eq, not_true_eq_false, not_false_eq_true, if_true, if_false, Bool.false_eq_true] at hbe hT
        rw [hbe] at hcs2
        rcases hr with ⟨hl0, hx⟩ | ⟨hl0, v, hx, hbb⟩
        ·
          simp only [go_sem, seval, eq_self, reduceCtorEq, e1, t1, e3, e13, e14, ek, q, g0, z0, z1, n2, prgB, iv, Ins.v, cB3_at, spTarget_mv, spSearch_mv, spForm_mv, spForm_fn, List.length_map, List.getElem?_map, Int.toNat_natCast, bne_self_eq_false, hT, gn0, qx, wE, zE, hS, hf7b, hf8b, hx]
          repeat' ((first | (refine AG_of ?_ ?_ <;> intro h) | (refine AB_of ?_ ?_ <;> intro h) | (refine A_draw_of [] [] (by kernel_rfl) ?_ <;> have h := mark)) <;> simp only [go_sem, seval, eq_self, reduceCtorEq, e1, t1, e3, e13, e14, ek, q, g0, z0, z1, n2, prgB, iv, Ins.v, cB3_at, spTarget_mv, spSearch_mv, spForm_mv, spForm_fn, List.length_map, List.getElem?_map, Int.toNat_natCast, bne_self_eq_false, hT, gn0, qx, wE, zE, hS, hf7b, hf8b, hx, h])
          exact ⟨⟨by simp [upd, e1], by simp [upd, t1, prgB], by simp [upd, e3, hle], by simp [upd, e13, hle], by simp [upd, e14, hle], k + 1, by simp [upd], by rw [hle]; omega, by rw [hcs2, hl0]; exact .inr ⟨by simp, (s.st 80).ver + 1, by simp [upd], by simp [upd, Blk4.v]⟩⟩, by simp [upd, numOf, ek]; omega⟩
        ·
          simp only [go_sem, seval, eq_self, reduceCtorEq, e1, t1, e3, e13, e14, ek, q, g0, z0, z1, n2, prgB, iv, Ins.v, cB3_at, spTarget_mv, spSearch_mv, spForm_mv, spForm_fn, List.length_map, List.getElem?_map, Int.toNat_natCast, bne_self_eq_false, hT, gn0, qx, wE, zE, hS, hf7b, hf8b, hx, hbb, hOl, fl]
          repeat' ((first | (refine AG_of ?_ ?_ <;> intro h) | (refine AB_of ?_ ?_ <;> intro h) | (refine A_draw_of [] [] (by kernel_rfl) ?_ <;> have h := mark)) <;> simp only [go_sem, seval, eq_self, reduceCtorEq, e1, t1, e3, e13, e14, ek, q, g0, z0, z1, n2, prgB, iv, Ins.v, cB3_at, spTarget_mv, spSearch_mv, spForm_mv, spForm_fn, List.length_map, List.getElem?_map, Int.toNat_natCast, bne_self_eq_false, hT, gn0, qx, wE, zE, hS, hf7b, hf8b, hx, hbb, hOl, fl, h])
          exact ⟨⟨by simp [upd, e1], by simp [upd, t1, prgB], by simp [upd, e3, hle], by simp [upd, e13, hle], by simp [upd, e14, hle], k + 1, by simp [upd], by rw [hle]; omega, by rw [hcs2]; exact .inr ⟨by simp, v + 1, by simp [upd, hOl], by simp [upd, Blk4.v]⟩⟩, by simp [upd, numOf, ek]; omega⟩
      by_cases hf8 : form x.op = 8
      · have hb : brB x = false := by unfold brB; simp [hf8]
        have hf7b : (form x.op != 7) = true := by simp [hf7]
        have hf8b : (form x.op != 8) = false := by simp [hf8]
        have hbe := blkAt_eq q hto hEt qx
        simp only [hn', hb, hf7, hf8, and_true, and_false, true_and, false_and, ne_eq, not_true_eq_false, not_false_eq_true, if_true, if_false, Bool.false_eq_true] at hbe hT
        rw [hbe] at hcs2
        rcases hr with ⟨hl0, hx⟩ | ⟨hl0, v, hx, hbb⟩
        ·
          simp only [go_sem, seval, eq_self, reduceCtorEq, e1, t1, e3, e13, e14, ek, q, g0, z0, z1, n2, prgB, iv, Ins.v, cB3_at, spTarget_mv, spSearch_mv, spForm_mv, spForm_fn, List.length_map, List.getElem?_map, Int.toNat_natCast, bne_self_eq_false, hT, gn0, qx, wE, zE, hf7b, hf8b, hx]
          repeat' ((first | (refine AG_of ?_ ?_ <;> intro h) | (refine AB_of ?_ ?_ <;> intro h) | (refine A_draw_of [] [] (by kernel_rfl) ?_ <;> have h := mark)) <;> simp only [go_sem, seval, eq_self, reduceCtorEq, e1, t1, e3, e13, e14, ek, q, g0, z0, z1, n2, prgB, iv, Ins.v, cB3_at, spTarget_mv, spSearch_mv, spForm_mv, spForm_fn, List.length_map, List.getElem?_map, Int.toNat_natCast, bne_self_eq_false, hT, gn0, qx, wE, zE, hf7b, hf8b, hx, h])
          exact ⟨⟨by simp [upd, e1], by simp [upd, t1, prgB], by simp [upd, e3, hle], by simp [upd, e13, hle], by simp [upd, e14, hle], k + 1, by simp [upd], by rw [hle]; omega, by rw [hcs2, hl0]; exact .inr ⟨by simp, (s.st 80).ver + 1, by simp [upd], by simp [upd, Blk4.v]⟩⟩, by simp [upd, numOf, ek]; omega⟩
        ·
          simp only [go_sem, seval, eq_self, reduceCtorEq, e1, t1, e3, e13, e14, ek, q, g0, z0, z1, n2, prgB, iv, Ins.v, cB3_at, spTarget_mv, spSearch_mv, spForm_mv, spForm_fn, List.length_map, List.getElem?_map, Int.toNat_natCast, bne_self_eq_false, hT, gn0, qx, wE, zE, hf7b, hf8b, hx, hbb, hOl, fl]
          repeat' ((first | (refine AG_of ?_ ?_ <;> intro h) | (refine AB_of ?_ ?_ <;> intro h) | (refine A_draw_of [] [] (by kernel_rfl) ?_ <;> have h := mark)) <;> simp only [go_sem, seval, eq_self, reduceCtorEq, e1, t1, e3, e13, e14, ek, q, g0, z0, z1, n2, prgB, iv, Ins.v, cB3_at, spTarget_mv, spSearch_mv, spForm_mv, spForm_fn, List.length_map, List.getElem?_map, Int.toNat_natCast, bne_self_eq_false, hT, gn0, qx, wE, zE, hf7b, hf8b, hx, hbb, hOl, fl, h])
          exact ⟨⟨by simp [upd, e1], by simp [upd, t1, prgB], by simp [upd, e3, hle], by simp [upd, e13, hle], by simp [upd, e14, hle], k + 1, by simp [upd], by rw [hle]; omega, by rw [hcs2]; exact .inr ⟨by simp, v + 1, by simp [upd, hOl], by simp [upd, Blk4.v]⟩⟩, by simp [upd, numOf, ek]; omega⟩
      have hf7b : (form x.op != 7) = true := by simp [hf7]
      have hf8b : (form x.op != 8) = true := by simp [hf8]
      cases hb : brB x
      ·
        have hbe := blkAt_eq q hto hEt qx
        simp only [hn', hb, hf7, hf8, and_true, and_false, true_and, false_and, ne_eq, not_true_eq_false, not_false_eq_true, if_true, if_false, Bool.false_eq_true] at hbe hT
        rw [hbe] at hcs2
        rcases hr with ⟨hl0, hx⟩ | ⟨hl0, v, hx, hbb⟩
        ·
          simp only [go_sem, seval, eq_self, reduceCtorEq, e1, t1, e3, e13, e14, ek, q, g0, z0, z1, n2, prgB, iv, Ins.v, cB3_at, spTarget_mv, spSearch_mv, spForm_mv, spForm_fn, List.length_map, List.getElem?_map, Int.toNat_natCast, bne_self_eq_false, hT, gn0, qx, wE, zE, hf7b, hf8b, hx]
          repeat' ((first | (refine AG_of ?_ ?_ <;> intro h) | (refine AB_of ?_ ?_ <;> intro h) | (refine A_draw_of [] [] (by kernel_rfl) ?_ <;> have h := mark)) <;> simp only [go_sem, seval, eq_self, reduceCtorEq, e1, t1, e3, e13, e14, ek, q, g0, z0, z1, n2, prgB, iv, Ins.v, cB3_at, spTarget_mv, spSearch_mv, spForm_mv, spForm_fn, List.length_map, List.getElem?_map, Int.toNat_natCast, bne_self_eq_false, hT, gn0, qx, wE, zE, hf7b, hf8b, hx, h])
          exact ⟨⟨by simp [upd, e1], by simp [upd, t1, prgB], by simp [upd, e3, hle], by simp [upd, e13, hle], by simp [upd, e14, hle], k + 1, by simp [upd], by rw [hle]; omega, by rw [hcs2, hl0]; exact .inr ⟨by simp, (s.st 80).ver + 1, by simp [upd], by simp [upd, Blk4.v]⟩⟩, by simp [upd, numOf, ek]; omega⟩
        ·
          simp only [go_sem, seval, eq_self, reduceCtorEq, e1, t1, e3, e13, e14, ek, q, g0, z0, z1, n2, prgB, iv, Ins.v, cB3_at, spTarget_mv, spSearch_mv, spForm_mv, spForm_fn, List.length_map, List.getElem?_map, Int.toNat_natCast, bne_self_eq_false, hT, gn0, qx, wE, zE, hf7b, hf8b, hx, hbb, hOl, fl]
          repeat' ((first | (refine AG_of ?_ ?_ <;> intro h) | (refine AB_of ?_ ?_ <;> intro h) | (refine A_draw_of [] [] (by kernel_rfl) ?_ <;> have h := mark)) <;> simp only [go_sem, seval, eq_self, reduceCtorEq, e1, t1, e3, e13, e14, ek, q, g0, z0, z1, n2, prgB, iv, Ins.v, cB3_at, spTarget_mv, spSearch_mv, spForm_mv, spForm_fn, List.length_map, List.getElem?_map, Int.toNat_natCast, bne_self_eq_false, hT, gn0, qx, wE, zE, hf7b, hf8b, hx, hbb, hOl, fl, h])
          exact ⟨⟨by simp [upd, e1], by simp [upd, t1, prgB], by simp [upd, e3, hle], by simp [upd, e13, hle], by simp [upd, e14, hle], k + 1, by simp [upd], by rw [hle]; omega, by rw [hcs2]; exact .inr ⟨by simp, v + 1, by simp [upd, hOl], by simp [upd, Blk4.v]⟩⟩, by simp [upd, numOf, ek]; omega⟩
      ·
        have hbe := blkAt_eq q hto hEt qx
        obtain ⟨tn, htn⟩ : ∃ t : Nat, (E : Int) + x.imm = t := ⟨((E : Int) + x.imm).toNat, by have := hxb hb; omega⟩
        have hmem := htg qx hb htn
        have hS := search_v hinc (by omega) hmem false
        rw [htn] at hT hbe
        rw [Int.toNat_natCast] at hbe
        simp only [hn', hb, hf7, hf8, and_true, and_false, true_and, false_and, ne_eq, not_true_eq_false, not_false_eq_true, if_true, if_false, Bool.false_eq_true] at hbe hT
        rw [hbe] at hcs2
        rcases hr with ⟨hl0, hx⟩ | ⟨hl0, v, hx, hbb⟩
        ·
          simp only [go_sem, seval, eq_self, reduceCtorEq, e1, t1, e3, e13, e14, ek, q, g0, z0, z1, n2, prgB, iv, Ins.v, cB3_at, spTarget_mv, spSearch_mv, spForm_mv, spForm_fn, List.length_map, List.getElem?_map, Int.toNat_natCast, bne_self_eq_false, hT, gn0, qx, wE, zE, hS, hf7b, hf8b, hx]
          repeat' ((first | (refine AG_of ?_ ?_ <;> intro h) | (refine AB_of ?_ ?_ <;> intro h) | (refine A_draw_of [] [] (by kernel_rfl) ?_ <;> have h := mark)) <;> simp only [go_sem, seval, eq_self, reduceCtorEq, e1, t1, e3, e13, e14, ek, q, g0, z0, z1, n2, prgB, iv, Ins.v, cB3_at, spTarget_mv, spSearch_mv, spForm_mv, spForm_fn, List.length_map, List.getElem?_map, Int.toNat_natCast, bne_self_eq_false, hT, gn0, qx, wE, zE, hS, hf7b, hf8b, hx, h])
          exact ⟨⟨by simp [upd, e1], by simp [upd, t1, prgB], by simp [upd, e3, hle], by simp [upd, e13, hle], by simp [upd, e14, hle], k + 1, by simp [upd], by rw [hle]; omega, by rw [hcs2, hl0]; exact .inr ⟨by simp, (s.st 80).ver + 1, by simp [upd], by simp [upd, Blk4.v]⟩⟩, by simp [upd, numOf, ek]; omega⟩
        ·
          simp only [go_sem, seval, eq_self, reduceCtorEq, e1, t1, e3, e13, e14, ek, q, g0, z0, z1, n2, prgB, iv, Ins.v, cB3_at, spTarget_mv, spSearch_mv, spForm_mv, spForm_fn, List.length_map, List.getElem?_map, Int.toNat_natCast, bne_self_eq_false, hT, gn0, qx, wE, zE, hS, hf7b, hf8b, hx, hbb, hOl, fl]
          repeat' ((first | (refine AG_of ?_ ?_ <;> intro h) | (refine AB_of ?_ ?_ <;> intro h) | (refine A_draw_of [] [] (by kernel_rfl) ?_ <;> have h := mark)) <;> simp only [go_sem, seval, eq_self, reduceCtorEq, e1, t1, e3, e13, e14, ek, q, g0, z0, z1, n2, prgB, iv, Ins.v, cB3_at, spTarget_mv, spSearch_mv, spForm_mv, spForm_fn, List.length_map, List.getElem?_map, Int.toNat_natCast, bne_self_eq_false, hT, gn0, qx, wE, zE, hS, hf7b, hf8b, hx, hbb, hOl, fl, h])
          exact ⟨⟨by simp [upd, e1], by simp [upd, t1, prgB], by simp [upd, e3, hle], by simp [upd, e13, hle], by simp [upd, e14, hle], k + 1, by simp [upd], by rw [hle]; omega, by rw [hcs2]; exact .inr ⟨by simp, v + 1, by simp [upd, hOl], by simp [upd, Blk4.v]⟩⟩, by simp [upd, numOf, ek]; omega⟩
  · have hkl : k = l.length := by omega
    have g0 : decide ((k : Int) < l.length) = false := by simp; omega
    rw [hkl] at hr
    rcases hr with ⟨hl0, hx⟩ | ⟨hl0, v, hx, hbb⟩
    · have h1 : (cutF p l.length).length = l.length := by simp [cutF]
      have h2 : (cutF p l.length).length = 0 := by have := congrArg List.length hl0; simpa using this
      exact absurd (List.eq_nil_of_length_eq_zero (h1.symm.trans h2)) hlne
    ·
      simp only [go_sem, seval, eq_self, reduceCtorEq, e1, t1, e3, e13, e14, ek, g0, hx, List.length_map]
      repeat' ((first | (refine AG_of ?_ ?_ <;> intro h) | (refine AB_of ?_ ?_ <;> intro h) | (refine A_draw_of [] [] (by kernel_rfl) ?_ <;> have h := mark)) <;> simp only [go_sem, seval, eq_self, reduceCtorEq, e1, t1, e3, e13, e14, ek, g0, hx, List.length_map, h])
      all_goals (first | refine fin_ret ?_ | refine fin_normal ?_)
      all_goals simp only [resOf, Tryz.results48, Tryz.ntmps48, go_sem, seval, eq_self, reduceCtorEq, hx, hbb]
end Go.Proofs.YtkfmecmmbnehjaaGreat
