/-
CertSwapped by the plain reckoning. No condition.
-/
import Derived.Test.YtkfmecmmbnehjaaGreatUd
import Derived.Test.YtkfmecmmbnehjaaGreatTb
/-
cert.some, slices.EqualFunc at cells, cert.Balanced, cert.Right by the plain reckoning. No condition.
-/
namespace Go.Proofs.YtkfmecmmbnehjaaGreat
set_option linter.unusedSimpArgs false
set_option linter.unusedVariables false

def spDelL : Spec := ⟨spDelK.mv, fun xs => (spDelK.fn xs).map asLst⟩
theorem spDelL_mv : spDelL.mv = [true, false] := rfl
theorem spDelL_v {a : List Cell} (h : a.length * 72 ≤ 140737488355328) (k : Int) : spDelL.fn [.own 9 51 (a.map Cell.v), .fn 44 [.ept [.s (.int .i64 k)]]] = some (.lst true 9 ((ofK k a).map Cell.v)) := by
  simp only [spDelL, spDelK, mapM_of cellOf_v, Option.bind_some]
  rw [if_pos h]
  simp only [Option.map_some]
  split
  · rename_i h1
    rcases neI_cases k a 0 with ⟨_, h2⟩ | ⟨i, _, h2, _, _⟩
    · rw [ofK_all h2]; rfl
    · rw [h2] at h1; omega
  · rfl
def cU5 : Orc := upd (upd cU4 43 (some spClone)) 42 (some spDelL)
theorem cU5_ok : ∀ g sp, cU5 g = some sp → Impl Tryz.prog g sp := orc_upd (orc_upd cU4_ok clone_impl) (impl_lst delK_impl)
theorem cU5_at : cU5 43 = some spClone ∧ cU5 42 = some spDelL := ⟨rfl, rfl⟩
def spSomeK : Spec := ⟨[], fun xs => match xs with
  | [x, .s (.int .i64 k)] => (lOf 9 x).bind fun l => (l.mapM cellOf).bind fun a => if a.length * 72 ≤ 140737488355328 then some (.lst true 9 ((ofK k a).map Cell.v)) else none
  | _ => none⟩
theorem spSomeK_mv : spSomeK.mv = [] := rfl
theorem spSomeK_v {a : List Cell} (h : a.length * 72 ≤ 140737488355328) (b : Bool) (k : Int) : spSomeK.fn [.lst b 9 (a.map Cell.v), .s (.int .i64 k)] = some (.lst true 9 ((ofK k a).map Cell.v)) := by
  have h1 : lOf 9 (.lst b 9 (a.map Cell.v)) = some (a.map Cell.v) := rfl
  simp only [spSomeK, h1, Option.bind_some, mapM_of cellOf_v]
  rw [if_pos h]
set_option maxHeartbeats 2000000 in
theorem someK_impl : Impl Tryz.prog 25 spSomeK := by
  refine impl_walk2 mixed cU5_ok eqT_ok Tryz.func25 rfl Tryz.ntmps25 (by kernel_rfl) ?_
  intro xs r h
  unfold spSomeK at h
  simp only at h
  (try split at h) <;> try (cases (show none = some r from h); done)
  rename_i x k
  obtain ⟨l, hl, h3⟩ := Option.bind_eq_some_iff.1 h
  obtain ⟨a, h2, h4⟩ := Option.bind_eq_some_iff.1 h3
  have e := mapM_eq (fun _ _ => cellOf_eq) h2
  clear h h3
  subst e
  split at h4
  case isFalse => cases h4
  rename_i hlen
  cases h4
  refine ⟨_, lst_args hl _, by simp, ?_⟩
  have hC := spClone_v hlen false
  have hD := spDelL_v hlen k
  have hsc := scal_cell a
  simp only [go_sem, seval, eq_self, reduceCtorEq, cU5_at, spClone_mv, hC, spDelL_mv, hD, hsc, List.length_map]
  repeat' ((first | (refine AG_of ?_ ?_ <;> intro h) | (refine AB_of ?_ ?_ <;> intro h) | (refine A_draw_of [] [] (by kernel_rfl) ?_ <;> have h := mark)) <;> simp only [go_sem, seval, eq_self, reduceCtorEq, cU5_at, spClone_mv, hC, spDelL_mv, hD, hsc, List.length_map, h])
  all_goals (first | refine fin_ret ?_ | refine fin_normal ?_)
  all_goals simp only [resOf, Tryz.results25, Tryz.ntmps25, go_sem, seval, eq_self, reduceCtorEq]

/-- one by one -/
def allP (P : Cell → Cell → Bool) : List Cell → List Cell → Bool
  | [], [] => true
  | c :: l, d :: m => P c d && allP P l m
  | _, _ => false
theorem allP_len {P : Cell → Cell → Bool} : ∀ {a b : List Cell}, a.length ≠ b.length → allP P a b = false
  | [], [], h => absurd rfl h
  | [], _ :: _, _ => rfl
  | _ :: _, [], _ => rfl
  | c :: l, d :: m, h => by
    rw [allP, allP_len (a := l) (b := m) (by simpa using h), Bool.and_false]
def sameReg (c d : Cell) : Bool := c.reg == d.reg
def sameIns (c d : Cell) : Bool := c.ins.op == d.ins.op && (c.ins.d == d.ins.d && (c.ins.a == d.ins.a && (c.ins.b == d.ins.b && (c.ins.imm == d.ins.imm && true))))
def spB1 : Spec := ⟨[], fun xs => match xs with
  | [x, y] => (cellOf x).bind fun c => (cellOf y).bind fun d => some (.s (.bool (sameReg c d)))
  | _ => none⟩
def spB2 : Spec := ⟨[], fun xs => match xs with
  | [x, y] => (cellOf x).bind fun c => (cellOf y).bind fun d => some (.s (.bool (sameIns c d)))
  | _ => none⟩
theorem b1_impl : Impl Tryz.prog 26 spB1 := by
  refine impl_walk mixed orc0_ok eqT_ok Tryz.func26 rfl Tryz.ntmps26 (by kernel_rfl) ?_
  intro xs r h
  unfold spB1 at h
  simp only at h
  (try split at h) <;> try (cases (show none = some r from h); done)
  rename_i x y
  obtain ⟨c, hc, h2⟩ := Option.bind_eq_some_iff.1 h
  obtain ⟨d, hd, h3⟩ := Option.bind_eq_some_iff.1 h2
  clear h h2
  obtain rfl := cellOf_eq hc
  obtain rfl := cellOf_eq hd
  cases h3
  refine ⟨by simp [Cell.v], ?_⟩
  simp only [go_sem, seval, eq_self, reduceCtorEq, Cell.v, sameReg]
  repeat' ((first | (refine AG_of ?_ ?_ <;> intro h) | (refine AB_of ?_ ?_ <;> intro h) | (refine A_draw_of [] [] (by kernel_rfl) ?_ <;> have h := mark)) <;> simp only [go_sem, seval, eq_self, reduceCtorEq, Cell.v, sameReg, h])
  all_goals (first | refine fin_ret ?_ | refine fin_normal ?_)
  all_goals simp only [resOf, Tryz.results26, Tryz.ntmps26, go_sem, seval, eq_self, reduceCtorEq]
theorem b2_impl : Impl Tryz.prog 27 spB2 := by
  refine impl_walk mixed orc0_ok eqT_ok Tryz.func27 rfl Tryz.ntmps27 (by kernel_rfl) ?_
  intro xs r h
  unfold spB2 at h
  simp only at h
  (try split at h) <;> try (cases (show none = some r from h); done)
  rename_i x y
  obtain ⟨c, hc, h2⟩ := Option.bind_eq_some_iff.1 h
  obtain ⟨d, hd, h3⟩ := Option.bind_eq_some_iff.1 h2
  clear h h2
  obtain rfl := cellOf_eq hc
  obtain rfl := cellOf_eq hd
  cases h3
  refine ⟨by simp [Cell.v], ?_⟩
  simp only [go_sem, seval, eq_self, reduceCtorEq, Cell.v, sameIns]
  repeat' ((first | (refine AG_of ?_ ?_ <;> intro h) | (refine AB_of ?_ ?_ <;> intro h) | (refine A_draw_of [] [] (by kernel_rfl) ?_ <;> have h := mark)) <;> simp only [go_sem, seval, eq_self, reduceCtorEq, Cell.v, sameIns, h])
  all_goals (first | refine fin_ret ?_ | refine fin_normal ?_)
  all_goals simp only [resOf, Tryz.results27, Tryz.ntmps27, go_sem, seval, eq_self, reduceCtorEq]
  all_goals (try simp)
def predOf (g : Nat) : Option (Cell → Cell → Bool) := if g = 26 then some sameReg else if g = 27 then some sameIns else none
def spEqC : Spec := ⟨[], fun xs => match xs with
  | [x, y, .fn g []] => (lOf 9 x).bind fun l => (l.mapM cellOf).bind fun a => (lOf 9 y).bind fun m => (m.mapM cellOf).bind fun b => (predOf g).bind fun P => if a.length ≤ 9223372036854775807 ∧ b.length ≤ 9223372036854775807 then some (.s (.bool (allP P a b))) else none
  | _ => none⟩
theorem spEqC_mv : spEqC.mv = [] := rfl
theorem spEqC_v {a b : List Cell} (ha : a.length ≤ 9223372036854775807) (hb : b.length ≤ 9223372036854775807) (k k' : Bool) {g : Nat} {P : Cell → Cell → Bool} (hP : predOf g = some P) : spEqC.fn [.lst k 9 (a.map Cell.v), .lst k' 9 (b.map Cell.v), .fn g []] = some (.s (.bool (allP P a b))) := by
  have h1 : lOf 9 (.lst k 9 (a.map Cell.v)) = some (a.map Cell.v) := rfl
  have h2 : lOf 9 (.lst k' 9 (b.map Cell.v)) = some (b.map Cell.v) := rfl
  simp only [spEqC, h1, h2, hP, Option.bind_some, mapM_of cellOf_v]
  rw [if_pos ⟨ha, hb⟩]
def cU6 : Orc := upd (upd cU5 26 (some spB1)) 27 (some spB2)
theorem cU6_ok : ∀ g sp, cU6 g = some sp → Impl Tryz.prog g sp := orc_upd (orc_upd cU5_ok b1_impl) b2_impl
theorem pred_spec {g : Nat} {P : Cell → Cell → Bool} (h : predOf g = some P) : ∃ sp, cU6 g = some sp ∧ sp.mv = [] ∧ ∀ c d : Cell, sp.fn [c.v, d.v] = some (.s (.bool (P c d))) := by
  unfold predOf at h
  split at h
  · rename_i hg
    subst hg
    cases h
    exact ⟨spB1, rfl, rfl, fun c d => by simp only [spB1, cellOf_v, Option.bind_some]⟩
  · split at h
    · rename_i hg
      subst hg
      cases h
      exact ⟨spB2, rfl, rfl, fun c d => by simp only [spB2, cellOf_v, Option.bind_some]⟩
    · cases h
def eqCFI (P : Cell → Cell → Bool) (g : Nat) (a b : List Cell) (s : S) : Prop := s.env 1 = .lst false 9 (b.map Cell.v) ∧ s.env 2 = .fn g [] ∧ s.env 15 = .lst false 9 (a.map Cell.v) ∧ s.env 16 = .s (.int .i64 a.length) ∧ ∃ k : Nat, s.env 17 = .s (.int .i64 k) ∧ k ≤ a.length ∧ allP P a b = allP P (a.drop k) (b.drop k)
set_option maxHeartbeats 2000000 in
theorem eqCF_impl : Impl Tryz.prog 24 spEqC := by
  refine impl_walk2 mixed cU6_ok eqT_ok Tryz.func24 rfl Tryz.ntmps24 (by kernel_rfl) ?_
  intro xs r h
  unfold spEqC at h
  simp only at h
  (try split at h) <;> try (cases (show none = some r from h); done)
  rename_i x y g
  obtain ⟨l, hl, h3⟩ := Option.bind_eq_some_iff.1 h
  obtain ⟨a, ha, h4⟩ := Option.bind_eq_some_iff.1 h3
  obtain ⟨m, hm, h5⟩ := Option.bind_eq_some_iff.1 h4
  obtain ⟨b, hb, h6⟩ := Option.bind_eq_some_iff.1 h5
  obtain ⟨P, hP, h7⟩ := Option.bind_eq_some_iff.1 h6
  clear h h3 h4 h5 h6
  have e1 := mapM_eq (fun _ _ => cellOf_eq) ha
  have e2 := mapM_eq (fun _ _ => cellOf_eq) hb
  subst e1
  subst e2
  split at h7
  case isFalse => cases h7
  rename_i hh
  obtain ⟨hla, hlb⟩ := hh
  cases h7
  obtain ⟨sp, hsp, hmv, hfn⟩ := pred_spec hP
  refine ⟨_, (SeesL.cons (lOf_sees hl) (.cons (lOf_sees hm) .same)).args, by simp, ?_⟩
  by_cases hab : a.length = b.length
  case neg =>
    have g0 : ((a.length : Int) != (b.length : Int)) = true := by simp; omega
    rw [allP_len hab]
    simp only [go_sem, seval, eq_self, reduceCtorEq, g0, List.length_map]
    repeat' ((first | (refine AG_of ?_ ?_ <;> intro h) | (refine AB_of ?_ ?_ <;> intro h) | (refine A_draw_of [] [] (by kernel_rfl) ?_ <;> have h := mark)) <;> simp only [go_sem, seval, eq_self, reduceCtorEq, g0, List.length_map, h])
    all_goals (first | refine fin_ret ?_ | refine fin_normal ?_)
    all_goals simp only [resOf, Tryz.results24, Tryz.ntmps24, go_sem, seval, eq_self, reduceCtorEq]
  have g0 : ((a.length : Int) != (b.length : Int)) = false := by simp [hab]
  simp only [go_sem, seval, eq_self, reduceCtorEq, g0, List.length_map]
  repeat' ((first | (refine AG_of ?_ ?_ <;> intro h) | (refine AB_of ?_ ?_ <;> intro h) | (refine A_draw_of [] [] (by kernel_rfl) ?_ <;> have h := mark)) <;> simp only [go_sem, seval, eq_self, reduceCtorEq, g0, List.length_map, h])
  refine A_loop (eqCFI P g a b) (fun s => a.length - (numOf (s.env 17)).toNat) ?_ ?_
  · refine ⟨by simp [upd, init, V.unfr], by simp [upd, init, V.unfr, V.unfrL], by simp [upd, init, V.unfr], by simp [upd], 0, by simp [upd], by omega, rfl⟩
  intro s hs
  obtain ⟨e1, e2, e15, e16, k, ek, hk, hall⟩ := hs
  rcases Nat.lt_or_ge k a.length with hlt | hge
  · obtain ⟨u, q⟩ : ∃ i, a[k]? = some i := ⟨a[k], List.getElem?_eq_getElem hlt⟩
    obtain ⟨v, q'⟩ : ∃ i, b[k]? = some i := ⟨b[k]'(by omega), List.getElem?_eq_getElem (by omega)⟩
    have hda : a.drop k = u :: a.drop (k + 1) := by
      rw [List.drop_eq_getElem_cons hlt]
      congr 1
      exact (List.getElem?_eq_some_iff.1 q).2
    have hdb : b.drop k = v :: b.drop (k + 1) := by
      rw [List.drop_eq_getElem_cons (by omega)]
      congr 1
      exact (List.getElem?_eq_some_iff.1 q').2
    rw [hda, hdb, allP] at hall
    have f0 : decide ((k : Int) < a.length) = true := by simp; omega
    have z0 := Int.natCast_nonneg k
    have n2 : IntKind.i64.wrap ((k : Int) + 1) = (k + 1 : Nat) := by rw [w_i64 (by omega) (by omega)]; omega
    have hc := hfn u v
    simp only [Cell.v] at hc
    cases hq : P u v
    · rw [hq] at hc hall
      rw [hall, Bool.false_and]
      simp only [go_sem, seval, eq_self, reduceCtorEq, e1, e2, e15, e16, ek, q, q', f0, z0, n2, hc, hsp, hmv, Cell.v, Int.toNat_natCast, List.getElem?_map, List.length_map]
      repeat' ((first | (refine AG_of ?_ ?_ <;> intro h) | (refine AB_of ?_ ?_ <;> intro h) | (refine A_draw_of [] [] (by kernel_rfl) ?_ <;> have h := mark)) <;> simp only [go_sem, seval, eq_self, reduceCtorEq, e1, e2, e15, e16, ek, q, q', f0, z0, n2, hc, hsp, hmv, Cell.v, Int.toNat_natCast, List.getElem?_map, List.length_map, h])
      all_goals (first | refine fin_ret ?_ | refine fin_normal ?_)
      all_goals simp only [resOf, Tryz.results24, Tryz.ntmps24, go_sem, seval, eq_self, reduceCtorEq]
    · rw [hq] at hc hall
      rw [Bool.true_and] at hall
      simp only [go_sem, seval, eq_self, reduceCtorEq, e1, e2, e15, e16, ek, q, q', f0, z0, n2, hc, hsp, hmv, Cell.v, Int.toNat_natCast, List.getElem?_map, List.length_map]
      repeat' ((first | (refine AG_of ?_ ?_ <;> intro h) | (refine AB_of ?_ ?_ <;> intro h) | (refine A_draw_of [] [] (by kernel_rfl) ?_ <;> have h := mark)) <;> simp only [go_sem, seval, eq_self, reduceCtorEq, e1, e2, e15, e16, ek, q, q', f0, z0, n2, hc, hsp, hmv, Cell.v, Int.toNat_natCast, List.getElem?_map, List.length_map, h])
      exact ⟨⟨by simp [upd, e1, Cell.v], by simp [upd, e2], by simp [upd, e15, Cell.v], by simp [upd, e16], k + 1, by simp [upd], by omega, hall⟩, by simp [upd, numOf, ek]; omega⟩
  · have hkl : k = a.length := by omega
    have f0 : decide ((k : Int) < a.length) = false := by simp; omega
    rw [hkl, List.drop_length, hab, List.drop_length] at hall
    rw [hall]
    simp only [go_sem, seval, eq_self, reduceCtorEq, e1, e2, e15, e16, ek, f0, allP, List.length_map]
    repeat' ((first | (refine AG_of ?_ ?_ <;> intro h) | (refine AB_of ?_ ?_ <;> intro h) | (refine A_draw_of [] [] (by kernel_rfl) ?_ <;> have h := mark)) <;> simp only [go_sem, seval, eq_self, reduceCtorEq, e1, e2, e15, e16, ek, f0, allP, List.length_map, h])
    all_goals (first | refine fin_ret ?_ | refine fin_normal ?_)
    all_goals simp only [resOf, Tryz.results24, Tryz.ntmps24, go_sem, seval, eq_self, reduceCtorEq]

/-- is a block balanced? -/
def balB (b : SB) : Bool := kindsB b.a [1, 2, 3, 4, 5] && kindsB b.e [1, 6, 7, 8] && endsB b.a b.e && allP sameReg (ofK 5 b.a) (ofK 6 b.e) && allP sameIns (ofK 3 b.a) (ofK 7 b.e) && ((ofK 4 b.a).length == (ofK 8 b.e).length)
def sbLit (b : SB) : Bool := decide (b.a.length * 72 ≤ 140737488355328) && decide (b.e.length * 72 ≤ 140737488355328)
def spBal : Spec := ⟨[], fun xs => match xs with
  | [x] => (sbOf x).bind fun b => if sbLit b = true then some (.s (.bool (balB b))) else none
  | _ => none⟩
theorem spBal_mv : spBal.mv = [] := rfl
theorem spBal_v {b : SB} (h : sbLit b = true) : spBal.fn [b.v] = some (.s (.bool (balB b))) := by
  simp only [spBal, sbOf_v, Option.bind_some, if_pos h]
def cU7 : Orc := upd (upd (upd cU6 24 (some spEqC)) 25 (some spSomeK)) 23 (some spEndsC)
theorem cU7_ok : ∀ g sp, cU7 g = some sp → Impl Tryz.prog g sp := orc_upd (orc_upd (orc_upd cU6_ok eqCF_impl) someK_impl) endsC_impl
theorem cU7_at : cU7 24 = some spEqC ∧ cU7 25 = some spSomeK ∧ cU7 23 = some spEndsC ∧ cU7 22 = some spKinds := ⟨rfl, rfl, rfl, rfl⟩
set_option maxRecDepth 8000 in
set_option maxHeartbeats 4000000 in
theorem bal_impl : Impl Tryz.prog 12 spBal := by
  refine impl_walk2 mixed cU7_ok eqT_ok Tryz.func12 rfl Tryz.ntmps12 (by kernel_rfl) ?_
  intro xs r h
  unfold spBal at h
  simp only at h
  (try split at h) <;> try (cases (show none = some r from h); done)
  rename_i x
  obtain ⟨b, hb, h4⟩ := Option.bind_eq_some_iff.1 h
  clear h
  split at h4
  case isFalse => cases h4
  rename_i hlit
  cases h4
  unfold sbLit at hlit
  simp only [Bool.and_eq_true, decide_eq_true_eq] at hlit
  obtain ⟨la, le⟩ := hlit
  have hfit : sbFit b = true := by unfold sbFit; simp only [Bool.and_eq_true, decide_eq_true_eq]; omega
  refine ⟨_, (SeesL.cons (sbOf_sees hb) .nil).args, by simp [SB.v], ?_⟩
  have hK1 := spKinds_v (a := b.a) (m := [1, 2, 3, 4, 5]) (by omega) (by decide) false false
  have hK2 := spKinds_v (a := b.e) (m := [1, 6, 7, 8]) (by omega) (by decide) false false
  simp only [List.map_cons, List.map_nil, iv] at hK1 hK2
  have hE := spEndsC_v hfit
  simp only [SB.v] at hE
  have s5 := spSomeK_v la false 5
  have s6 := spSomeK_v le false 6
  have s3 := spSomeK_v la false 3
  have s7 := spSomeK_v le false 7
  have s4 := spSomeK_v la false 4
  have s8 := spSomeK_v le false 8
  have k5 := ofK_len 5 b.a
  have k6 := ofK_len 6 b.e
  have k3 := ofK_len 3 b.a
  have k7 := ofK_len 7 b.e
  have q1 := spEqC_v (a := ofK 5 b.a) (b := ofK 6 b.e) (by omega) (by omega) false false (g := 26) (P := sameReg) rfl
  have q2 := spEqC_v (a := ofK 3 b.a) (b := ofK 7 b.e) (by omega) (by omega) false false (g := 27) (P := sameIns) rfl
  unfold balB
  cases c1 : kindsB b.a [1, 2, 3, 4, 5]
  · rw [c1] at hK1
    simp only [go_sem, seval, eq_self, reduceCtorEq, SB.v, cU7_at, spKinds_mv, hK1]
    repeat' ((first | (refine AG_of ?_ ?_ <;> intro h) | (refine AB_of ?_ ?_ <;> intro h) | (refine A_draw_of [] [] (by kernel_rfl) ?_ <;> have h := mark)) <;> simp only [go_sem, seval, eq_self, reduceCtorEq, SB.v, cU7_at, spKinds_mv, hK1, h])
    all_goals (first | refine fin_ret ?_ | refine fin_normal ?_)
    all_goals simp only [resOf, Tryz.results12, Tryz.ntmps12, go_sem, seval, eq_self, reduceCtorEq]
    all_goals rfl
  rw [c1] at hK1
  cases c2 : kindsB b.e [1, 6, 7, 8]
  · rw [c2] at hK2
    simp only [go_sem, seval, eq_self, reduceCtorEq, SB.v, cU7_at, spKinds_mv, hK1, hK2]
    repeat' ((first | (refine AG_of ?_ ?_ <;> intro h) | (refine AB_of ?_ ?_ <;> intro h) | (refine A_draw_of [] [] (by kernel_rfl) ?_ <;> have h := mark)) <;> simp only [go_sem, seval, eq_self, reduceCtorEq, SB.v, cU7_at, spKinds_mv, hK1, hK2, h])
    all_goals (first | refine fin_ret ?_ | refine fin_normal ?_)
    all_goals simp only [resOf, Tryz.results12, Tryz.ntmps12, go_sem, seval, eq_self, reduceCtorEq]
    all_goals rfl
  rw [c2] at hK2
  cases c3 : endsB b.a b.e
  · rw [c3] at hE
    simp only [go_sem, seval, eq_self, reduceCtorEq, SB.v, cU7_at, spKinds_mv, hK1, hK2, spEndsC_mv, hE]
    repeat' ((first | (refine AG_of ?_ ?_ <;> intro h) | (refine AB_of ?_ ?_ <;> intro h) | (refine A_draw_of [] [] (by kernel_rfl) ?_ <;> have h := mark)) <;> simp only [go_sem, seval, eq_self, reduceCtorEq, SB.v, cU7_at, spKinds_mv, hK1, hK2, spEndsC_mv, hE, h])
    all_goals (first | refine fin_ret ?_ | refine fin_normal ?_)
    all_goals simp only [resOf, Tryz.results12, Tryz.ntmps12, go_sem, seval, eq_self, reduceCtorEq]
    all_goals rfl
  rw [c3] at hE
  cases c4 : allP sameReg (ofK 5 b.a) (ofK 6 b.e)
  · rw [c4] at q1
    simp only [go_sem, seval, eq_self, reduceCtorEq, SB.v, cU7_at, spKinds_mv, hK1, hK2, spEndsC_mv, hE, spSomeK_mv, s5, s6, spEqC_mv, q1]
    repeat' ((first | (refine AG_of ?_ ?_ <;> intro h) | (refine AB_of ?_ ?_ <;> intro h) | (refine A_draw_of [] [] (by kernel_rfl) ?_ <;> have h := mark)) <;> simp only [go_sem, seval, eq_self, reduceCtorEq, SB.v, cU7_at, spKinds_mv, hK1, hK2, spEndsC_mv, hE, spSomeK_mv, s5, s6, spEqC_mv, q1, h])
    all_goals (first | refine fin_ret ?_ | refine fin_normal ?_)
    all_goals simp only [resOf, Tryz.results12, Tryz.ntmps12, go_sem, seval, eq_self, reduceCtorEq]
    all_goals rfl
  rw [c4] at q1
  cases c5 : allP sameIns (ofK 3 b.a) (ofK 7 b.e)
  · rw [c5] at q2
    simp only [go_sem, seval, eq_self, reduceCtorEq, SB.v, cU7_at, spKinds_mv, hK1, hK2, spEndsC_mv, hE, spSomeK_mv, s5, s6, s3, s7, spEqC_mv, q1, q2]
    repeat' ((first | (refine AG_of ?_ ?_ <;> intro h) | (refine AB_of ?_ ?_ <;> intro h) | (refine A_draw_of [] [] (by kernel_rfl) ?_ <;> have h := mark)) <;> simp only [go_sem, seval, eq_self, reduceCtorEq, SB.v, cU7_at, spKinds_mv, hK1, hK2, spEndsC_mv, hE, spSomeK_mv, s5, s6, s3, s7, spEqC_mv, q1, q2, h])
    all_goals (first | refine fin_ret ?_ | refine fin_normal ?_)
    all_goals simp only [resOf, Tryz.results12, Tryz.ntmps12, go_sem, seval, eq_self, reduceCtorEq]
    all_goals rfl
  rw [c5] at q2
  have hl : (((ofK 4 b.a).length : Int) == ((ofK 8 b.e).length : Int)) = ((ofK 4 b.a).length == (ofK 8 b.e).length) := by
    rw [Bool.eq_iff_iff]; simp only [beq_iff_eq]; omega
  simp only [go_sem, seval, eq_self, reduceCtorEq, SB.v, cU7_at, spKinds_mv, hK1, hK2, spEndsC_mv, hE, spSomeK_mv, s5, s6, s3, s7, s4, s8, spEqC_mv, q1, q2, List.length_map]
  repeat' ((first | (refine AG_of ?_ ?_ <;> intro h) | (refine AB_of ?_ ?_ <;> intro h) | (refine A_draw_of [] [] (by kernel_rfl) ?_ <;> have h := mark)) <;> simp only [go_sem, seval, eq_self, reduceCtorEq, SB.v, cU7_at, spKinds_mv, hK1, hK2, spEndsC_mv, hE, spSomeK_mv, s5, s6, s3, s7, s4, s8, spEqC_mv, q1, q2, List.length_map, h])
  all_goals (first | refine fin_ret ?_ | refine fin_normal ?_)
  all_goals simp only [resOf, Tryz.results12, Tryz.ntmps12, go_sem, seval, eq_self, reduceCtorEq, hl]
  all_goals simp

/-- is a split that of a program? -/
def rightS (p : Prg) (s : Spl) : Bool := closedB p s.o && decide (s.bl = splitL p s.o)
def spRightS : Spec := ⟨[], fun xs => match xs with
  | [x, y] => (prgOf x).bind fun p => (splOf y).bind fun s => if sbsFit s.bl = true then some (.s (.bool (rightS p s))) else none
  | _ => none⟩
theorem spRightS_mv : spRightS.mv = [] := rfl
theorem spRightS_v {y : V} {s : Spl} (hy : splOf y = some s) (h : sbsFit s.bl = true) (p : Prg) : spRightS.fn [p.v, y] = some (.s (.bool (rightS p s))) := by
  simp only [spRightS, prgOf_v, hy, Option.bind_some, if_pos h]
def cU8 : Orc := upd (upd cU7 31 (some spSpW)) 32 (some spSameS)
theorem cU8_ok : ∀ g sp, cU8 g = some sp → Impl Tryz.prog g sp := orc_upd (orc_upd cU7_ok spw_impl) sameS_impl
theorem cU8_at : cU8 31 = some spSpW ∧ cU8 32 = some spSameS := ⟨rfl, rfl⟩
set_option maxRecDepth 8000 in
set_option maxHeartbeats 4000000 in
theorem rightS_impl : Impl Tryz.prog 14 spRightS := by
  refine impl_walk2 mixed cU8_ok eqT_ok Tryz.func14 rfl Tryz.ntmps14 (by kernel_rfl) ?_
  intro xs r h
  unfold spRightS at h
  simp only at h
  (try split at h) <;> try (cases (show none = some r from h); done)
  rename_i x y
  obtain ⟨p, hp, h3⟩ := Option.bind_eq_some_iff.1 h
  obtain ⟨s, hy, h4⟩ := Option.bind_eq_some_iff.1 h3
  clear h h3
  split at h4
  case isFalse => cases h4
  rename_i hfit
  cases h4
  obtain ⟨sa, ol⟩ := splOf_sees hy
  refine ⟨_, (SeesL.cons (prgOf_sees hp) (.cons sa .nil)).args, by simp [Spl.v], ?_⟩
  have hW := spSpW_v ol p
  have too := take_iv ol
  simp only [Prg.v] at hW
  unfold rightS
  cases c1 : closedB p s.o
  · rw [swV_no c1] at hW
    simp only [noS, z16, List.replicate] at hW
    simp only [go_sem, seval, eq_self, reduceCtorEq, Prg.v, Spl.v, cU8_at, spSpW_mv, hW, too, ol, List.length_map]
    repeat' ((first | (refine AG_of ?_ ?_ <;> intro h) | (refine AB_of ?_ ?_ <;> intro h) | (refine A_draw_of [] [] (by kernel_rfl) ?_ <;> have h := mark)) <;> simp only [go_sem, seval, eq_self, reduceCtorEq, Prg.v, Spl.v, cU8_at, spSpW_mv, hW, too, ol, List.length_map, h])
    all_goals (first | refine fin_ret ?_ | refine fin_normal ?_)
    all_goals simp only [resOf, Tryz.results14, Tryz.ntmps14, go_sem, seval, eq_self, reduceCtorEq]
    all_goals rfl
  · rw [swV_ok c1] at hW
    have hr := closed_right c1
    have hS := spSameS_v (splOf_v false s.bl ol) (splOf_v false (splitL p s.o) ol) hfit (splitL_fit hr s.o)
    have hd : decide ((⟨s.bl, s.o⟩ : Spl) = ⟨splitL p s.o, s.o⟩) = decide (s.bl = splitL p s.o) := by
      rw [decide_eq_decide, spl_ext]
      simp
    rw [hd] at hS
    simp only [go_sem, seval, eq_self, reduceCtorEq, Prg.v, Spl.v, cU8_at, spSpW_mv, hW, spSameS_mv, hS, too, ol, List.length_map]
    repeat' ((first | (refine AG_of ?_ ?_ <;> intro h) | (refine AB_of ?_ ?_ <;> intro h) | (refine A_draw_of [] [] (by kernel_rfl) ?_ <;> have h := mark)) <;> simp only [go_sem, seval, eq_self, reduceCtorEq, Prg.v, Spl.v, cU8_at, spSpW_mv, hW, spSameS_mv, hS, too, ol, List.length_map, h])
    all_goals (first | refine fin_ret ?_ | refine fin_normal ?_)
    all_goals simp only [resOf, Tryz.results14, Tryz.ntmps14, go_sem, seval, eq_self, reduceCtorEq]
    all_goals rfl

end Go.Proofs.YtkfmecmmbnehjaaGreat
/-
cert.Most by the plain reckoning, and the example of chapter 14. No condition.
-/
namespace Go.Proofs.YtkfmecmmbnehjaaGreat
set_option linter.unusedSimpArgs false
set_option linter.unusedVariables false

def stepM (p : (Int → Int) × Int) (c : Cell) : (Int → Int) × Int := (fun x => if x = c.off then p.1 c.off + 1 else p.1 x, if p.1 c.off + 1 > p.2 then p.1 c.off + 1 else p.2)
def foldM (l : List Cell) (n : Int) : (Int → Int) × Int := l.foldl stepM (fun _ => 0, n)
def mostL (l : List Cell) (n : Int) : Int := (foldM l n).2
def mostB (n : Int) (b : SB) : Int := mostL b.e (mostL b.a n)
def mostS (s : Spl) : Int := s.bl.foldl mostB 0
theorem foldM_snoc (l : List Cell) (n : Int) (c : Cell) : foldM (l ++ [c]) n = stepM (foldM l n) c := by
  unfold foldM
  rw [List.foldl_append]; rfl
theorem foldM_bd (n : Int) : ∀ (l : List Cell) (x : Int), 0 ≤ (foldM l n).1 x ∧ (foldM l n).1 x ≤ l.length := by
  intro l
  rw [← List.reverse_reverse l]
  generalize l.reverse = r
  induction r with
  | nil => intro x; exact ⟨Int.le_refl _, Int.le_refl _⟩
  | cons c r ih =>
    intro x
    rw [List.reverse_cons, foldM_snoc, List.length_append, List.length_singleton]
    have h1 := ih x
    have h2 := ih c.off
    show 0 ≤ (if x = c.off then _ else _) ∧ (if x = c.off then _ else _) ≤ _
    split
    · constructor <;> omega
    · constructor <;> omega
def offOk (b : SB) : Bool := b.a.all (fun c => wfI c.off) && b.e.all (fun c => wfI c.off)
def spMost : Spec := ⟨[], fun xs => match xs with
  | [x] => (splOf x).bind fun s => if sbsFit s.bl = true ∧ s.bl.all offOk = true then some (.s (.int .i64 (mostS s))) else none
  | _ => none⟩
theorem spMost_mv : spMost.mv = [] := rfl
theorem spMost_v {y : V} {s : Spl} (hy : splOf y = some s) (h : sbsFit s.bl = true) (h2 : s.bl.all offOk = true) : spMost.fn [y] = some (.s (.int .i64 (mostS s))) := by
  simp only [spMost, hy, Option.bind_some]
  rw [if_pos ⟨h, h2⟩]
theorem mapI_ii : mapI Tryz.prog 66 = true := by kernel_rfl
def mO (bl : List SB) (s : S) : Prop := s.env 12 = .lst false 6 (bl.map SB.v) ∧ s.env 13 = .s (.int .i64 bl.length) ∧ ∃ k : Nat, s.env 14 = .s (.int .i64 k) ∧ k ≤ bl.length ∧ s.env 3 = .s (.int .i64 ((bl.take k).foldl mostB 0))
def mM (bl : List SB) (k : Nat) (A E : List Cell) (n0 : Int) (s : S) : Prop := s.env 12 = .lst false 6 (bl.map SB.v) ∧ s.env 13 = .s (.int .i64 bl.length) ∧ s.env 14 = .s (.int .i64 k) ∧
  ∃ v j : Nat, s.env 22 = .sw 22 v 2 ∧ s.st 22 = ⟨v, .rowV 1 22 [.lst false 9 (A.map Cell.v), .lst false 9 (E.map Cell.v)]⟩ ∧ s.env 23 = .s (.int .i64 2) ∧ s.env 24 = .s (.int .i64 j) ∧ j ≤ 2 ∧ s.env 3 = .s (.int .i64 (([A, E].take j).foldl (fun n l => mostL l n) n0))
def mI (bl : List SB) (k : Nat) (LL : List V) (v j : Nat) (l : List Cell) (n1 : Int) (s : S) : Prop := s.env 12 = .lst false 6 (bl.map SB.v) ∧ s.env 13 = .s (.int .i64 bl.length) ∧ s.env 14 = .s (.int .i64 k) ∧
  s.env 22 = .sw 22 v 2 ∧ s.st 22 = ⟨v, .rowV 1 22 LL⟩ ∧ s.env 23 = .s (.int .i64 2) ∧ s.env 24 = .s (.int .i64 j) ∧
  s.env 29 = .lst false 9 (l.map Cell.v) ∧ s.env 30 = .s (.int .i64 l.length) ∧ ∃ u i : Nat, s.env 8 = .mp 28 u ∧ s.st 28 = ⟨u, .mpc i (foldM (l.take i) n1).1⟩ ∧ s.env 31 = .s (.int .i64 i) ∧ i ≤ l.length ∧ s.env 3 = .s (.int .i64 (foldM (l.take i) n1).2)
set_option maxRecDepth 8000 in
set_option maxHeartbeats 8000000 in
theorem most_impl : Impl Tryz.prog 16 spMost := by
  refine impl_walk2 mixed orc0_ok eqT_ok Tryz.func16 rfl Tryz.ntmps16 (by kernel_rfl) ?_
  intro xs r h
  unfold spMost at h
  simp only at h
  (try split at h) <;> try (cases (show none = some r from h); done)
  rename_i x
  obtain ⟨s0, hy, h4⟩ := Option.bind_eq_some_iff.1 h
  clear h
  split at h4
  case isFalse => cases h4
  rename_i hh
  obtain ⟨hfit, hoff⟩ := hh
  cases h4
  obtain ⟨sa, ol⟩ := splOf_sees hy
  refine ⟨_, (SeesL.cons sa .nil).args, by simp [Spl.v], ?_⟩
  obtain ⟨hbl, hbf⟩ := sbsFit_iff hfit
  have too := take_iv ol
  unfold mostS
  obtain ⟨bl, hble⟩ : ∃ bl, s0.bl = bl := ⟨_, rfl⟩
  rw [hble] at hbl hbf hoff ⊢
  simp only [go_sem, seval, eq_self, reduceCtorEq, Spl.v, hble, too, ol, List.length_map]
  repeat' ((first | (refine AG_of ?_ ?_ <;> intro h) | (refine AB_of ?_ ?_ <;> intro h) | (refine A_draw_of [] [] (by kernel_rfl) ?_ <;> have h := mark)) <;> simp only [go_sem, seval, eq_self, reduceCtorEq, Spl.v, hble, too, ol, List.length_map, h])
  refine A_loop (mO bl) (fun s => bl.length - (numOf (s.env 14)).toNat) ?_ ?_
  · exact ⟨by simp [upd, V.unfr], by simp [upd], 0, by simp [upd], by omega, by simp [upd]⟩
  intro s hs
  obtain ⟨e12, e13, k, ek, hk, e3⟩ := hs
  have n2 : IntKind.i64.wrap ((k : Int) + 1) = (k + 1 : Nat) ∨ k = bl.length := by
    by_cases hkl : k = bl.length
    · exact .inr hkl
    · left; rw [w_i64 (by omega) (by omega)]; omega
  rcases Nat.lt_or_ge k bl.length with hlt | hge
  · obtain ⟨b, q⟩ : ∃ b, bl[k]? = some b := ⟨bl[k], List.getElem?_eq_getElem hlt⟩
    have hbm := List.mem_of_getElem? q
    obtain ⟨fa, fe⟩ := sbFit_iff (hbf b hbm)
    have hob := List.all_eq_true.1 hoff b hbm
    unfold offOk at hob
    simp only [Bool.and_eq_true] at hob
    obtain ⟨hoa, hoe⟩ := hob
    have g0 : decide ((k : Int) < (bl.length : Int)) = true := by simp; omega
    have z0 := Int.natCast_nonneg k
    have n2' : IntKind.i64.wrap ((k : Int) + 1) = (k + 1 : Nat) := by rw [w_i64 (by omega) (by omega)]; omega
    have htk : (bl.take (k + 1)).foldl mostB 0 = mostB ((bl.take k).foldl mostB 0) b := by
      rw [List.take_add_one, q, List.foldl_append]; rfl
    obtain ⟨n0, hn0⟩ : ∃ n0, (bl.take k).foldl mostB 0 = n0 := ⟨_, rfl⟩
    rw [hn0] at htk e3
    obtain ⟨f1, t1, nx, tk, A, E⟩ := b
    simp only at fa fe hoa hoe
    simp only [go_sem, seval, eq_self, reduceCtorEq, e12, e13, ek, e3, g0, z0, q, SB.v, Int.toNat_natCast, List.getElem?_map, List.length_map]
    repeat' ((first | (refine AG_of ?_ ?_ <;> intro h) | (refine AB_of ?_ ?_ <;> intro h) | (refine A_draw_of [] [] (by kernel_rfl) ?_ <;> have h := mark)) <;> simp only [go_sem, seval, eq_self, reduceCtorEq, e12, e13, ek, e3, g0, z0, q, SB.v, Int.toNat_natCast, List.getElem?_map, List.length_map, h])
    refine A_loop (mM bl k A E n0) (fun s => 2 - (numOf (s.env 24)).toNat) ?_ ?_
    · exact ⟨by simp [upd, e12, SB.v], by simp [upd, e13], by simp [upd, ek], (s.st 22).ver + 1, 0, by simp [upd], by simp [upd], by simp [upd], by simp [upd], by omega, by simp [upd, e3]⟩
    have ekO := ek
    clear e12 e13 ek e3
    intro s2 hs
    obtain ⟨e12, e13, ek, v, j, e22, t22, e23, ej, hj, e3⟩ := hs
    rcases Nat.lt_or_ge j 2 with hjn | hjn
    · have g1 : decide ((j : Int) < 2) = true := by simp; omega
      have zj := Int.natCast_nonneg j
      have hj2 : (j : Int) < 2 := by omega
      have n3 : IntKind.i64.wrap ((j : Int) + 1) = (j + 1 : Nat) := by rw [w_i64 (by omega) (by omega)]; omega
      obtain ⟨l, hl, hll, hlo⟩ : ∃ l, [A, E][j]? = some l ∧ l.length ≤ 9223372036854775807 ∧ l.all (fun c => wfI c.off) = true := by
        rcases (show j = 0 ∨ j = 1 by omega) with rfl | rfl
        · exact ⟨A, rfl, fa, hoa⟩
        · exact ⟨E, rfl, fe, hoe⟩
      have hnx : ([A, E].take (j + 1)).foldl (fun n l => mostL l n) n0 = mostL l (([A, E].take j).foldl (fun n l => mostL l n) n0) := by
        rw [List.take_add_one, hl, List.foldl_append]; rfl
      obtain ⟨n1, hn1⟩ : ∃ n1, ([A, E].take j).foldl (fun n l => mostL l n) n0 = n1 := ⟨_, rfl⟩
      rw [hn1] at hnx e3
      have hLL : ([.lst false 9 (A.map Cell.v), .lst false 9 (E.map Cell.v)] : List V)[j]? = some (.lst false 9 (l.map Cell.v)) := by
        rcases (show j = 0 ∨ j = 1 by omega) with rfl | rfl
        · simp at hl; subst hl; rfl
        · simp at hl; subst hl; rfl
      obtain ⟨LL, hLLe⟩ : ∃ LL : List V, [.lst false 9 (A.map Cell.v), .lst false 9 (E.map Cell.v)] = LL := ⟨_, rfl⟩
      have hLl : LL.length = 2 := by rw [← hLLe]; rfl
      rw [hLLe] at hLL t22
      simp only [go_sem, seval, eq_self, reduceCtorEq, e12, e13, ek, e22, t22, e23, ej, e3, g1, zj, hj2, hLL, hLl, mapI_ii, Int.toNat_natCast, List.length_map]
      repeat' ((first | (refine AG_of ?_ ?_ <;> intro h) | (refine AB_of ?_ ?_ <;> intro h) | (refine A_draw_of [] [] (by kernel_rfl) ?_ <;> have h := mark)) <;> simp only [go_sem, seval, eq_self, reduceCtorEq, e12, e13, ek, e22, t22, e23, ej, e3, g1, zj, hj2, hLL, hLl, mapI_ii, Int.toNat_natCast, List.length_map, h])
      refine A_loop (mI bl k LL v j l n1) (fun s => l.length - (numOf (s.env 31)).toNat) ?_ ?_
      · exact ⟨by simp [upd, e12], by simp [upd, e13], by simp [upd, ek], by simp [upd, e22], by simp [upd, t22], by simp [upd, e23], by simp [upd, ej], by simp [upd], by simp [upd], (s2.st 28).ver + 1, 0, by simp [upd], by simp [upd, foldM], by simp [upd], by omega, by simp [upd, e3, foldM]⟩
      have ejO := ej
      clear e12 e13 ek e22 t22 e23 ej e3
      intro s3 hs
      obtain ⟨e12, e13, ek, e22, t22, e23, ej, e29, e30, u, i, e8, t28, ei, hi, e3⟩ := hs
      rcases Nat.lt_or_ge i l.length with hil | hil
      · obtain ⟨c, qc⟩ : ∃ c, l[i]? = some c := ⟨l[i], List.getElem?_eq_getElem hil⟩
        have hwf := List.all_eq_true.1 hlo c (List.mem_of_getElem? qc)
        have g2 : decide ((i : Int) < (l.length : Int)) = true := by simp; omega
        have zi := Int.natCast_nonneg i
        have n4 : IntKind.i64.wrap ((i : Int) + 1) = (i + 1 : Nat) := by rw [w_i64 (by omega) (by omega)]; omega
        have hts : l.take (i + 1) = l.take i ++ [c] := by rw [List.take_add_one, qc]; rfl
        have hbd := foldM_bd n1 (l.take i) c.off
        have hlt' : (l.take i).length ≤ i := by rw [List.length_take]; omega
        have hiM : i < maxLen := by
          have : maxLen = 9223372036854775807 := rfl
          omega
        have hst := foldM_snoc (l.take i) n1 c
        rw [← hts] at hst
        obtain ⟨⟨f, m⟩, hfm⟩ : ∃ p, foldM (l.take i) n1 = p := ⟨_, rfl⟩
        rw [hfm] at hbd hst t28 e3
        simp only at hbd t28 e3
        have w1 : IntKind.i64.wrap (f c.off + 1) = f c.off + 1 := by rw [w_i64 (by omega) (by omega)]
        have hwv : wfI (f c.off + 1) = true := by
          unfold wfI
          simp only [Bool.and_eq_true, decide_eq_true_eq]
          omega
        obtain ⟨kd, ins, rg, pc, off⟩ := c
        simp only at hwf w1 hwv hst
        have hwf1 : (decide (-9223372036854775808 ≤ off) && decide (off ≤ 9223372036854775807)) = true := hwf
        have hwv1 : (decide (-9223372036854775808 ≤ f off + 1) && decide (f off + 1 ≤ 9223372036854775807)) = true := hwv
        simp only [go_sem, seval, eq_self, reduceCtorEq, e12, e13, ek, e22, t22, e23, ej, e29, e30, e8, t28, ei, e3, g2, zi, qc, hwf1, hiM, w1, hwv1, n4, mapI_ii, Cell.v, Int.toNat_natCast, List.getElem?_map, List.length_map]
        repeat' ((first | (refine AG_of ?_ ?_ <;> intro h) | (refine AB_of ?_ ?_ <;> intro h) | (refine A_draw_of [] [] (by kernel_rfl) ?_ <;> have h := mark)) <;> simp only [go_sem, seval, eq_self, reduceCtorEq, e12, e13, ek, e22, t22, e23, ej, e29, e30, e8, t28, ei, e3, g2, zi, qc, hwf1, hiM, w1, hwv1, n4, mapI_ii, Cell.v, Int.toNat_natCast, List.getElem?_map, List.length_map, h])
        refine ⟨⟨by simp [upd, e12], by simp [upd, e13], by simp [upd, ek], by simp [upd, e22], by simp [upd, t22], by simp [upd, e23], by simp [upd, ej], by simp [upd, e29, Cell.v], by simp [upd, e30], u, i + 1, by simp [upd, e8], ?_, by simp [upd], by omega, ?_⟩, by simp [upd, numOf, ei]; omega⟩
        · rw [hst]; simp [upd, stepM]
        · rw [hst]; simp [upd, stepM]
      · have hil2 : i = l.length := by omega
        have g2 : decide ((i : Int) < (l.length : Int)) = false := by simp; omega
        rw [hil2, List.take_length] at e3
        simp only [go_sem, seval, eq_self, reduceCtorEq, e12, e13, ek, e22, t22, e23, ej, e29, e30, e8, ei, e3, g2, n3]
        repeat' ((first | (refine AG_of ?_ ?_ <;> intro h) | (refine AB_of ?_ ?_ <;> intro h) | (refine A_draw_of [] [] (by kernel_rfl) ?_ <;> have h := mark)) <;> simp only [go_sem, seval, eq_self, reduceCtorEq, e12, e13, ek, e22, t22, e23, ej, e29, e30, e8, ei, e3, g2, n3, h])
        exact ⟨⟨by simp [upd, e12], by simp [upd, e13], by simp [upd, ek], v, j + 1, by simp [upd, e22], by rw [hLLe]; simp [upd, t22], by simp [upd, e23], by simp [upd], by omega, by rw [hnx]; simp [upd, e3, mostL]⟩, by simp [upd, numOf, ejO]; omega⟩
    · have hj2 : j = 2 := by omega
      have g1 : decide ((j : Int) < 2) = false := by simp; omega
      rw [hj2] at e3
      simp only [go_sem, seval, eq_self, reduceCtorEq, e12, e13, ek, e22, e23, ej, e3, g1, n2']
      repeat' ((first | (refine AG_of ?_ ?_ <;> intro h) | (refine AB_of ?_ ?_ <;> intro h) | (refine A_draw_of [] [] (by kernel_rfl) ?_ <;> have h := mark)) <;> simp only [go_sem, seval, eq_self, reduceCtorEq, e12, e13, ek, e22, e23, ej, e3, g1, n2', h])
      exact ⟨⟨by simp [upd, e12], by simp [upd, e13], k + 1, by simp [upd], by omega, by rw [htk]; simp [upd, e3, mostB]⟩, by simp [upd, numOf, ekO]; omega⟩
  · have hkl : k = bl.length := by omega
    have g0 : decide ((k : Int) < (bl.length : Int)) = false := by simp; omega
    rw [hkl, List.take_length] at e3
    simp only [go_sem, seval, eq_self, reduceCtorEq, e12, e13, ek, e3, g0]
    repeat' ((first | (refine AG_of ?_ ?_ <;> intro h) | (refine AB_of ?_ ?_ <;> intro h) | (refine A_draw_of [] [] (by kernel_rfl) ?_ <;> have h := mark)) <;> simp only [go_sem, seval, eq_self, reduceCtorEq, e12, e13, ek, e3, g0, h])
    all_goals (first | refine fin_ret ?_ | refine fin_normal ?_)
    all_goals simp only [resOf, Tryz.results16, Tryz.ntmps16, go_sem, seval, eq_self, reduceCtorEq, e3]

theorem a_bal : spBal.fn [.agg [.s (.int .i64 0), .s (.int .i64 0), .s (.int .i64 0), .s (.int .i64 0), .s (.slice none 0 0), .s (.slice none 0 0)]] = some (.s (.bool true)) := by kernel_rfl
theorem a_right : spRightS.fn [.agg [.lst false 5 [.agg [.s (.int .i64 41), .s (.int .i64 0), .s (.int .i64 0), .s (.int .i64 0), .s (.int .i64 0)]], .s (.int .i64 0), .s (.slice none 0 0)], aliveSV false] = some (.s (.bool true)) := by kernel_rfl
theorem a_wrong : spRightS.fn [.agg [.lst false 5 [.agg [.s (.int .i64 41), .s (.int .i64 0), .s (.int .i64 0), .s (.int .i64 0), .s (.int .i64 0)]], .s (.int .i64 0), .s (.slice none 0 0)], .agg [.s (.slice none 0 0), .s (.int .i64 0), .s (.int .i64 0), .s (.int .i64 0), .s (.int .i64 0), .s (.int .i64 0), .s (.int .i64 0), .s (.int .i64 0), .s (.int .i64 0), .s (.int .i64 0), .s (.int .i64 0), .s (.int .i64 0), .s (.int .i64 0), .s (.int .i64 0), .s (.int .i64 0), .s (.int .i64 0), .s (.int .i64 0)]] = some (.s (.bool false)) := by kernel_rfl
theorem a_most : spMost.fn [aliveSV false] = some (.s (.int .i64 1)) := by kernel_rfl
theorem a_counts : spCounts.fn [.agg [.s (.int .i64 0), .s (.int .i64 1), .s (.int .i64 (-1)), .s (.int .i64 (-1)), .lst false 9 [halted], .lst false 9 [halted]]] = some (.agg [.s (.int .i64 0), .s (.int .i64 0), .s (.int .i64 0), .s (.int .i64 0), .s (.int .i64 0), .s (.int .i64 0), .s (.int .i64 0), .s (.int .i64 0), .s (.int .i64 0), .s (.int .i64 0), .s (.int .i64 0), .s (.int .i64 1),
  .s (.int .i64 0), .s (.int .i64 0), .s (.int .i64 0), .s (.int .i64 0), .s (.int .i64 0), .s (.int .i64 0), .s (.int .i64 0), .s (.int .i64 0), .s (.int .i64 0), .s (.int .i64 0), .s (.int .i64 0), .s (.int .i64 1)]) := by kernel_rfl
def cU9 : Orc := upd (upd (upd (upd (upd cU8 16 (some spMost)) 14 (some spRightS)) 12 (some spBal)) 10 (some spCounts)) 20 (some spSpO)
theorem cU9_ok : ∀ g sp, cU9 g = some sp → Impl Tryz.prog g sp := orc_upd (orc_upd (orc_upd (orc_upd (orc_upd cU8_ok most_impl) rightS_impl) bal_impl) counts_impl) rspo_impl
theorem cU9_at : cU9 16 = some spMost ∧ cU9 14 = some spRightS ∧ cU9 12 = some spBal ∧ cU9 10 = some spCounts ∧ cU9 20 = some spSpO := ⟨rfl, rfl, rfl, rfl, rfl⟩
set_option maxRecDepth 8000 in
set_option maxHeartbeats 4000000 in
theorem alive14_impl : Impl Tryz.prog 7 spTrue := by
  refine impl_walk mixed cU9_ok eqT_ok Tryz.func7 rfl Tryz.ntmps7 (by kernel_rfl) ?_
  intro xs r h
  unfold spTrue at h
  simp only at h
  (try split at h) <;> try (cases (show none = some r from h); done)
  cases h
  refine ⟨by simp, ?_⟩
  have h1 := alive_split
  have h2 := a_bal
  have h3 := a_right
  have h4 := a_wrong
  have h5 := a_most
  have h6 := a_counts
  simp only [aliveSV, halted] at h1 h3 h5 h6
  simp only [go_sem, seval, eq_self, reduceCtorEq, cU9_at, spSpO_mv, h1, spBal_mv, h2, spRightS_mv, h3, h4, spMost_mv, h5, spCounts_mv, h6]
  repeat' ((first | (refine AG_of ?_ ?_ <;> intro h) | (refine AB_of ?_ ?_ <;> intro h) | (refine A_draw_of [] [] (by kernel_rfl) ?_ <;> have h := mark)) <;> simp only [go_sem, seval, eq_self, reduceCtorEq, cU9_at, spSpO_mv, h1, spBal_mv, h2, spRightS_mv, h3, h4, spMost_mv, h5, spCounts_mv, h6, h])
  all_goals (first | refine fin_ret ?_ | refine fin_normal ?_)
  all_goals simp only [resOf, Tryz.results7, Tryz.ntmps7, go_sem, seval, eq_self, reduceCtorEq]

end Go.Proofs.YtkfmecmmbnehjaaGreat
/-
The reference's Owner and Split for programs of any length; what a called function sees of a row of blocks of which one holds a row of cells of one's own. No condition.
-/
namespace Go.Proofs.YtkfmecmmbnehjaaGreat
set_option linter.unusedSimpArgs false
set_option linter.unusedVariables false

theorem impl_or {P : Program} {f : Nat} {sp sp' : Spec} (h : Impl P f sp) (k : Impl P f sp') : Impl P f ⟨sp.mv, fun xs => match sp.fn xs with
  | some r => some r
  | none => sp'.fn xs⟩ := by
  refine ⟨h.1, fun xs r hr vs w J ha => ?_⟩
  simp only at hr
  split at hr
  · rename_i r' hr'
    cases hr
    exact h.2 xs r hr' vs w J ha
  · exact k.2 xs r hr vs w J ha
def spOfN : Spec := ⟨[], fun xs => match xs with
  | [x] => (prgOf x).bind fun p => if rightP p = false then some (.agg (zeroO.map iv)) else none
  | _ => none⟩
set_option maxHeartbeats 2000000 in
theorem ofN_impl : Impl Tryz.prog 38 spOfN := by
  refine impl_walk2 mixed cRef2_ok eqT_ok Tryz.func38 rfl Tryz.ntmps38 (by kernel_rfl) ?_
  intro xs r h
  unfold spOfN at h
  simp only at h
  (try split at h) <;> try (cases (show none = some r from h); done)
  rename_i x
  obtain ⟨p, hp, h3⟩ := Option.bind_eq_some_iff.1 h
  clear h
  split at h3
  case isFalse => cases h3
  rename_i c1
  cases h3
  refine ⟨_, prg_args hp _, by simp, ?_⟩
  have hr := rightP_v p
  simp only [Prg.v] at hr
  rw [c1] at hr
  simp only [go_sem, seval, eq_self, reduceCtorEq, Prg.v, cRef2_at, spRightP_mv, hr]
  repeat' ((first | (refine AG_of ?_ ?_ <;> intro h) | (refine AB_of ?_ ?_ <;> intro h) | (refine A_draw_of [] [] (by kernel_rfl) ?_ <;> have h := mark)) <;> simp only [go_sem, seval, eq_self, reduceCtorEq, Prg.v, cRef2_at, spRightP_mv, hr, h])
  all_goals (first | refine fin_ret ?_ | refine fin_normal ?_)
  all_goals simp only [resOf, Tryz.results38, Tryz.ntmps38, go_sem, seval, eq_self, reduceCtorEq]
  all_goals rfl
def spOfA : Spec := ⟨spOf.mv, fun xs => match spOf.fn xs with
  | some r => some r
  | none => spOfN.fn xs⟩
theorem spOfA_mv : spOfA.mv = [] := rfl
theorem spOfA_v (p : Prg) : spOfA.fn [p.v] = some (.agg ((ofO p).map iv)) := by
  by_cases h : p.code.length ≤ 1000000000
  · simp only [spOfA, of_v h]
  · have hr : rightP p = false := by
      cases c : rightP p with
      | false => rfl
      | true => have := right_len c; omega
    have h1 : spOf.fn [p.v] = none := by simp only [spOf, prgOf_v, Option.bind_some, if_neg h]
    have h2 : ofO p = zeroO := by unfold ofO; rw [hr]; rfl
    simp only [spOfA, h1, spOfN, prgOf_v, Option.bind_some, hr, if_true, h2]
def cUa : Orc := upd cT2 38 (some spOfA)
theorem cUa_ok : ∀ g sp, cUa g = some sp → Impl Tryz.prog g sp := orc_upd cT2_ok (impl_or rowner_impl ofN_impl)
theorem cUa_at : cUa 18 = some spSpW ∧ cUa 38 = some spOfA := ⟨rfl, rfl⟩
def spSpA : Spec := ⟨[], fun xs => match xs with
  | [x] => (prgOf x).bind fun p => some (swV p (ofO p))
  | _ => none⟩
theorem spSpA_mv : spSpA.mv = [] := rfl
theorem spSpA_v (p : Prg) : spSpA.fn [p.v] = some (swV p (ofO p)) := by
  simp only [spSpA, prgOf_v, Option.bind_some]
set_option maxHeartbeats 2000000 in
theorem rspA_impl : Impl Tryz.prog 20 spSpA := by
  refine impl_walk2 mixed cUa_ok eqT_ok Tryz.func20 rfl Tryz.ntmps20 (by kernel_rfl) ?_
  intro xs r h
  unfold spSpA at h
  simp only at h
  (try split at h) <;> try (cases (show none = some r from h); done)
  rename_i x
  obtain ⟨p, hp, h3⟩ := Option.bind_eq_some_iff.1 h
  clear h
  cases h3
  refine ⟨_, (SeesL.cons (prgOf_sees hp) .nil).args, by simp, ?_⟩
  have hof := spOfA_v p
  have hw := spSpW_v (of_len p) p
  have hol := of_len p
  have hto := take_iv hol
  simp only [Prg.v] at hof hw
  unfold swV at hw ⊢
  cases hc : closedB p (ofO p)
  · rw [hc, if_neg (by simp)] at hw
    rw [if_neg (by simp)]
    simp only [noS] at hw ⊢
    simp only [go_sem, seval, eq_self, reduceCtorEq, Prg.v]
    repeat' ((first | (refine AG_of ?_ ?_ <;> intro h) | (refine AB_of ?_ ?_ <;> intro h)) <;> simp only [go_sem, seval, eq_self, reduceCtorEq, Prg.v, h])
    refine A_draw_of [2] [] (by kernel_rfl) ?_
    simp only [go_sem, seval, eq_self, reduceCtorEq, Prg.v, cUa_at, spOfA_mv, spSpW_mv, hof, hw, hol, hto, z16, List.replicate, List.length_map]
    repeat' ((first | (refine AG_of ?_ ?_ <;> intro h) | (refine AB_of ?_ ?_ <;> intro h) | (refine A_draw_of [] [] (by kernel_rfl) ?_ <;> have h := mark)) <;> simp only [go_sem, seval, eq_self, reduceCtorEq, Prg.v, cUa_at, spOfA_mv, spSpW_mv, hof, hw, hol, hto, z16, List.replicate, List.length_map, h])
    all_goals (first | refine fin_ret ?_ | refine fin_normal ?_)
    all_goals simp only [resOf, Tryz.results20, Tryz.ntmps20, go_sem, seval, eq_self, reduceCtorEq, hol, hto, z16, List.replicate, List.length_map]
    all_goals rfl
  · rw [hc, if_pos rfl] at hw
    rw [if_pos rfl]
    simp only [go_sem, seval, eq_self, reduceCtorEq, Prg.v]
    repeat' ((first | (refine AG_of ?_ ?_ <;> intro h) | (refine AB_of ?_ ?_ <;> intro h)) <;> simp only [go_sem, seval, eq_self, reduceCtorEq, Prg.v, h])
    refine A_draw_of [2] [] (by kernel_rfl) ?_
    simp only [go_sem, seval, eq_self, reduceCtorEq, Prg.v, cUa_at, spOfA_mv, spSpW_mv, hof, hw, hol, hto, z16, List.replicate, List.length_map]
    repeat' ((first | (refine AG_of ?_ ?_ <;> intro h) | (refine AB_of ?_ ?_ <;> intro h) | (refine A_draw_of [] [] (by kernel_rfl) ?_ <;> have h := mark)) <;> simp only [go_sem, seval, eq_self, reduceCtorEq, Prg.v, cUa_at, spOfA_mv, spSpW_mv, hof, hw, hol, hto, z16, List.replicate, List.length_map, h])
    all_goals (first | refine fin_ret ?_ | refine fin_normal ?_)
    all_goals simp only [resOf, Tryz.results20, Tryz.ntmps20, go_sem, seval, eq_self, reduceCtorEq, hol, hto, z16, List.replicate, List.length_map]
    all_goals rfl

theorem exp_sb1 (st : Nat → Blk) (n : Nat) (b : SB) : (b.v.cells.mapM (expV st (n + 1))).map (withCells b.v) = some b.v := by
  simp [SB.v, V.cells, expV, withCells]
theorem mapM_set {f : V → Option V} {Y : V} : ∀ (l : List V) (k : Nat), k < l.length → (∀ x ∈ l, f x = some x) → (l.set k Y).mapM f = (f Y).map fun y => l.set k y
  | [], k, h, _ => by simp at h
  | x :: l, 0, _, hf => by
    rw [List.set_cons_zero, mapM_cons']
    have hl : l.mapM f = some l := by
      have : ∀ m : List V, (∀ x ∈ m, f x = some x) → m.mapM f = some m := by
        intro m
        induction m with
        | nil => intro _; simp
        | cons y m ih => intro h; rw [mapM_cons', h y (by simp), ih (fun z hz => h z (by simp [hz]))]; rfl
      exact this l fun z hz => hf z (by simp [hz])
    rw [hl]
    cases f Y <;> rfl
  | x :: l, k + 1, h, hf => by
    rw [List.set_cons_succ, mapM_cons', hf x (by simp), mapM_set l k (by simpa using h) (fun z hz => hf z (by simp [hz]))]
    cases f Y <;> rfl
theorem exp_set (L : List SB) {K : Nat} (hK : K < L.length) (a0 a1 a2 a3 : Value) (st : Nat → Blk) (n : Nat) (x y : V) : ((L.map SB.v).set K (.agg [.s a0, .s a1, .s a2, .s a3, x, y])).mapM (fun (x : V) => (x.cells.mapM (expV st (n + 1))).map (withCells x)) =
    (expV st (n + 1) x).bind fun x' => (expV st (n + 1) y).bind fun y' => some ((L.map SB.v).set K (.agg [.s a0, .s a1, .s a2, .s a3, x', y'])) := by
  rw [mapM_set _ _ (by rw [List.length_map]; exact hK) (fun z hz => by obtain ⟨b, _, rfl⟩ := List.mem_map.1 hz; exact exp_sb1 st n b)]
  show (([.s a0, .s a1, .s a2, .s a3, x, y] : List V).mapM (expV st (n + 1)) |>.map (withCells _)).map _ = _
  rw [mapM_cons', mapM_cons', mapM_cons', mapM_cons', mapM_cons', mapM_cons']
  have e0 : ∀ v, expV st (n + 1) (.s v) = some (.s v) := fun v => rfl
  rw [e0, e0, e0, e0]
  cases expV st (n + 1) x with
  | none => rfl
  | some x' =>
    cases expV st (n + 1) y with
    | none => rfl
    | some y' => simp [withCells]
theorem exp_set2 (L : List SB) {K : Nat} (hK : K < L.length) (a0 a1 a2 a3 : Value) (st : Nat → Blk) (x y : V) : ((L.map SB.v).set K (.agg [.s a0, .s a1, .s a2, .s a3, x, y])).mapM (fun (x : V) => (x.cells.mapM (expV st 2)).map (withCells x)) =
    (expV st 2 x).bind fun x' => (expV st 2 y).bind fun y' => some ((L.map SB.v).set K (.agg [.s a0, .s a1, .s a2, .s a3, x', y'])) := exp_set L hK a0 a1 a2 a3 st 1 x y

end Go.Proofs.YtkfmecmmbnehjaaGreat
namespace Go.Proofs.YtkfmecmmbnehjaaGreat
set_option linter.unusedSimpArgs false
set_option linter.unusedVariables false

theorem swap_iff {α : Type} {l : List α} {i j : Nat} {u v : α} (hi : l[i]? = some u) (hj : l[j]? = some v) : (l.set i v).set j u = l ↔ u = v := by
  have hil := (List.getElem?_eq_some_iff.1 hi).1
  have hjl := (List.getElem?_eq_some_iff.1 hj).1
  constructor
  · intro h
    by_cases hij : i = j
    · subst hij
      rw [hi] at hj
      exact Option.some.inj hj
    · have h2 : ((l.set i v).set j u)[j]? = l[j]? := by rw [h]
      rw [List.getElem?_set_self (by rw [List.length_set]; exact hjl), hj] at h2
      exact Option.some.inj h2
  · rintro rfl
    have e : ∀ {k : Nat}, l[k]? = some u → l.set k u = l := fun {k} hk => by
      obtain ⟨hk1, rfl⟩ := List.getElem?_eq_some_iff.1 hk
      exact List.set_getElem_self hk1
    rw [e hi, e hj]
theorem set_iff {α : Type} {l : List α} {k : Nat} {b c : α} (h : l[k]? = some b) : l.set k c = l ↔ c = b := by
  obtain ⟨hk, rfl⟩ := List.getElem?_eq_some_iff.1 h
  constructor
  · intro e
    have h2 : (l.set k c)[k]? = l[k]? := by rw [e]
    rw [List.getElem?_set_self hk, List.getElem?_eq_getElem hk] at h2
    exact Option.some.inj h2
  · rintro rfl
    exact List.set_getElem_self hk
def spCSw : Spec := ⟨[], fun xs => match xs with
  | [x, .s (.int .i64 m), .s (.int .i64 n), .s (.bool _)] => (prgOf x).bind fun _ => if m ≤ 9223372036854775807 ∧ n ≤ 9223372036854775807 then some (.s (.bool true)) else none
  | _ => none⟩
def cUb : Orc := upd (upd (upd cU9 7 (some spTrue)) 20 (some spSpA)) 8 (some spFew)
theorem cUb_ok : ∀ g sp, cUb g = some sp → Impl Tryz.prog g sp := orc_upd (orc_upd (orc_upd cU9_ok alive14_impl) rspA_impl) few_impl
theorem cUb_at : cUb 7 = some spTrue ∧ cUb 20 = some spSpA ∧ cUb 8 = some spFew ∧ cUb 14 = some spRightS ∧ cUb 12 = some spBal := ⟨rfl, rfl, rfl, rfl, rfl⟩
set_option maxRecDepth 8000 in
set_option maxHeartbeats 16000000 in
theorem csw_impl : Impl Tryz.prog 6 spCSw := by
  refine impl_walk2 mixed cUb_ok eqT_ok Tryz.func6 rfl Tryz.ntmps6 (by kernel_rfl) ?_
  intro xs r h
  unfold spCSw at h
  simp only at h
  (try split at h) <;> try (cases (show none = some r from h); done)
  rename_i x m n onE
  obtain ⟨p, hp, h3⟩ := Option.bind_eq_some_iff.1 h
  clear h
  split at h3
  case isFalse => cases h3
  rename_i hmn
  obtain ⟨hm, hn⟩ := hmn
  cases h3
  refine ⟨_, (SeesL.cons (prgOf_sees hp) .same).args, by simp, ?_⟩
  have hF := few_v p
  have hS := spSpA_v p
  have hol := of_len p
  obtain ⟨o, hoe⟩ : ∃ o, ofO p = o := ⟨_, rfl⟩
  have hcl : rightP p = true → closedB p o = true := fun h => by rw [← hoe]; exact of_closed h
  rw [hoe] at hS hol
  have hto := take_iv hol
  simp only [Prg.v] at hF hS
  cases cr : rightP p
  · have hc : closedB p o = false := by unfold closedB; rw [cr]; rfl
    rw [swV_no hc] at hS
    simp only [noS, z16, List.replicate] at hS
    cases c1 : fewB p
    · rw [c1] at hF
      simp only [go_sem, seval, eq_self, reduceCtorEq, Prg.v, cUb_at, spTrue_mv, spTrue_fn, spSpA_mv, hS, spFew_mv, hF]
      repeat' ((first | (refine AG_of ?_ ?_ <;> intro h) | (refine AB_of ?_ ?_ <;> intro h) | (refine A_draw_of [] [] (by kernel_rfl) ?_ <;> have h := mark)) <;> simp only [go_sem, seval, eq_self, reduceCtorEq, Prg.v, cUb_at, spTrue_mv, spTrue_fn, spSpA_mv, hS, spFew_mv, hF, h])
      all_goals (first | refine fin_ret ?_ | refine fin_normal ?_)
      all_goals simp only [resOf, Tryz.results6, Tryz.ntmps6, go_sem, seval, eq_self, reduceCtorEq]
    · rw [c1] at hF
      simp only [go_sem, seval, eq_self, reduceCtorEq, Prg.v, cUb_at, spTrue_mv, spTrue_fn, spSpA_mv, hS, spFew_mv, hF]
      repeat' ((first | (refine AG_of ?_ ?_ <;> intro h) | (refine AB_of ?_ ?_ <;> intro h) | (refine A_draw_of [] [] (by kernel_rfl) ?_ <;> have h := mark)) <;> simp only [go_sem, seval, eq_self, reduceCtorEq, Prg.v, cUb_at, spTrue_mv, spTrue_fn, spSpA_mv, hS, spFew_mv, hF, h])
      all_goals (first | refine fin_ret ?_ | refine fin_normal ?_)
      all_goals simp only [resOf, Tryz.results6, Tryz.ntmps6, go_sem, seval, eq_self, reduceCtorEq]
  have hc := hcl cr
  rw [swV_ok hc] at hS
  cases c1 : fewB p
  · rw [c1] at hF
    simp only [go_sem, seval, eq_self, reduceCtorEq, Prg.v, cUb_at, spTrue_mv, spTrue_fn, spSpA_mv, hS, hol, hto, spFew_mv, hF, z16, List.replicate, List.length_map]
    repeat' ((first | (refine AG_of ?_ ?_ <;> intro h) | (refine AB_of ?_ ?_ <;> intro h) | (refine A_draw_of [] [] (by kernel_rfl) ?_ <;> have h := mark)) <;> simp only [go_sem, seval, eq_self, reduceCtorEq, Prg.v, cUb_at, spTrue_mv, spTrue_fn, spSpA_mv, hS, hol, hto, spFew_mv, hF, z16, List.replicate, List.length_map, h])
    all_goals (first | refine fin_ret ?_ | refine fin_normal ?_)
    all_goals simp only [resOf, Tryz.results6, Tryz.ntmps6, go_sem, seval, eq_self, reduceCtorEq]
  rw [c1] at hF
  by_cases hm0 : m < 0
  · have g1 : decide (m < 0) = true := by simp; omega
    simp only [go_sem, seval, eq_self, reduceCtorEq, Prg.v, cUb_at, spTrue_mv, spTrue_fn, spSpA_mv, hS, hol, hto, spFew_mv, hF, g1, z16, List.replicate, List.length_map]
    repeat' ((first | (refine AG_of ?_ ?_ <;> intro h) | (refine AB_of ?_ ?_ <;> intro h) | (refine A_draw_of [] [] (by kernel_rfl) ?_ <;> have h := mark)) <;> simp only [go_sem, seval, eq_self, reduceCtorEq, Prg.v, cUb_at, spTrue_mv, spTrue_fn, spSpA_mv, hS, hol, hto, spFew_mv, hF, g1, z16, List.replicate, List.length_map, h])
    all_goals (first | refine fin_ret ?_ | refine fin_normal ?_)
    all_goals simp only [resOf, Tryz.results6, Tryz.ntmps6, go_sem, seval, eq_self, reduceCtorEq]
  have g1 : decide (m < 0) = false := by simp; omega
  by_cases hn0 : n < 0
  · have g2 : decide (n < 0) = true := by simp; omega
    simp only [go_sem, seval, eq_self, reduceCtorEq, Prg.v, cUb_at, spTrue_mv, spTrue_fn, spSpA_mv, hS, hol, hto, spFew_mv, hF, g1, g2, z16, List.replicate, List.length_map]
    repeat' ((first | (refine AG_of ?_ ?_ <;> intro h) | (refine AB_of ?_ ?_ <;> intro h) | (refine A_draw_of [] [] (by kernel_rfl) ?_ <;> have h := mark)) <;> simp only [go_sem, seval, eq_self, reduceCtorEq, Prg.v, cUb_at, spTrue_mv, spTrue_fn, spSpA_mv, hS, hol, hto, spFew_mv, hF, g1, g2, z16, List.replicate, List.length_map, h])
    all_goals (first | refine fin_ret ?_ | refine fin_normal ?_)
    all_goals simp only [resOf, Tryz.results6, Tryz.ntmps6, go_sem, seval, eq_self, reduceCtorEq]
  have g2 : decide (n < 0) = false := by simp; omega
  obtain ⟨M, rfl⟩ : ∃ M : Nat, m = M := ⟨m.toNat, by omega⟩
  obtain ⟨Q, rfl⟩ : ∃ Q : Nat, n = Q := ⟨n.toNat, by omega⟩
  have hrl := right_len cr
  obtain ⟨hN1, hN2⟩ := cutL_pos cr
  have hl1 := splitL_len p o
  have hfit := splitL_fit cr o
  have hlist : ∀ b ∈ splitL p o, b.a.length ≤ 6000 ∧ b.e.length ≤ 6000 := fun b hb => by
    unfold splitL at hb
    obtain ⟨b0, hb0, rfl⟩ := List.mem_map.1 hb
    obtain ⟨k, hk, rfl⟩ := List.getElem_of_mem hb0
    obtain ⟨s1, s2⟩ := sbAt_cells (o := o) (List.getElem?_eq_getElem hk)
    obtain ⟨_, _, h3, h4⟩ := blk_bd (List.getElem?_eq_getElem hk)
    have l1 := iCells_len aCells_len p.code o (bdAt p k) (bdAt p (k + 1) - bdAt p k)
    have l2 := iCells_len eCells_len p.code o (bdAt p k) (bdAt p (k + 1) - bdAt p k)
    rw [s1, s2]
    omega
  obtain ⟨BL, hBL⟩ : ∃ BL, splitL p o = BL := ⟨_, rfl⟩
  obtain ⟨N, hN⟩ : ∃ N, (cutL p).length = N := ⟨_, rfl⟩
  rw [hN] at hN1 hN2 hl1
  rw [hBL] at hS hl1 hfit hlist
  obtain ⟨hfit1, hfit2⟩ := sbsFit_iff hfit
  have hKN : M % N < N := Nat.mod_lt _ hN1
  obtain ⟨K, hK⟩ : ∃ K, M % N = K := ⟨_, rfl⟩
  rw [hK] at hKN
  have hz : ¬ ((N : Nat) : Int) = 0 := by omega
  have hrem : Int.tmod (M : Int) (N : Int) = (K : Int) := by rw [← hK]; exact (Int.ofNat_tmod M N).symm
  have hMN : M / N ≤ M := Nat.div_le_self _ _
  have hquo : Int.tdiv (M : Int) (N : Int) = ((M / N : Nat) : Int) := (Int.ofNat_tdiv M N).symm
  obtain ⟨R, hR0⟩ : ∃ R, M / N = R := ⟨_, rfl⟩
  rw [hR0] at hMN hquo
  have wq : IntKind.i64.wrap (R : Int) = (R : Int) := by rw [w_i64 (by omega) (by omega)]
  obtain ⟨b, qb⟩ : ∃ b, BL[K]? = some b := ⟨BL[K]'(by omega), List.getElem?_eq_getElem (by omega)⟩
  obtain ⟨la, le⟩ := hlist b (List.mem_of_getElem? qb)
  obtain ⟨f1, t1, nx, tk, A, E⟩ := b
  simp only at la le
  have hscA := scal_cell A
  have hscE := scal_cell E
  have f6 : N * 80 ≤ 140737488355328 := by omega
  have fA : A.length * 72 ≤ 140737488355328 := by omega
  have fE : E.length * 72 ≤ 140737488355328 := by omega
  have zK := Int.natCast_nonneg K
  have hKB : (K : Int) < (BL.length : Int) := by omega
  have hKN2 : (K : Int) < (N : Int) := by omega
  have hex := exp_set2 BL (K := K) (by omega)
  simp only [V.cells] at hex
  have qbv : (BL.map SB.v)[K]? = some (SB.v ⟨f1, t1, nx, tk, A, E⟩) := by rw [List.getElem?_map, qb]; rfl
  obtain ⟨BV, hBV⟩ : ∃ BV, BL.map SB.v = BV := ⟨_, rfl⟩
  have hBVl : BV.length = N := by rw [← hBV, List.length_map, hl1]
  rw [hBV] at hS hex qbv
  cases onE
  · -- one side
    by_cases h2 : A.length < 2
    · have g3 : decide ((A.length : Int) < 2) = true := by simp; omega
      simp only [go_sem, seval, eq_self, reduceCtorEq, Prg.v, cUb_at, spTrue_mv, spTrue_fn, spSpA_mv, hS, hol, hto, spFew_mv, hF, g1, g2, hBVl, hz, hrem, hquo, wq, zK, hKN2, qbv, hscA, hscE, f6, fA, fE, SB.v, z16, List.replicate, Int.toNat_natCast, List.length_map, g3]
      repeat' ((first | (refine AG_of ?_ ?_ <;> intro h) | (refine AB_of ?_ ?_ <;> intro h)) <;> simp only [go_sem, seval, eq_self, reduceCtorEq, Prg.v, cUb_at, spTrue_mv, spTrue_fn, spSpA_mv, hS, hol, hto, spFew_mv, hF, g1, g2, hBVl, hz, hrem, hquo, wq, zK, hKN2, qbv, hscA, hscE, f6, fA, fE, SB.v, z16, List.replicate, Int.toNat_natCast, List.length_map, g3, h])
      refine A_draw_of [53, 13] [53, 13, 1013053] (by kernel_rfl) ?_
      simp only [go_sem, seval, eq_self, reduceCtorEq, Prg.v, cUb_at, spTrue_mv, spTrue_fn, spSpA_mv, hS, hol, hto, spFew_mv, hF, g1, g2, hBVl, hz, hrem, hquo, wq, zK, hKN2, qbv, hscA, hscE, f6, fA, fE, SB.v, z16, List.replicate, Int.toNat_natCast, List.length_map, g3]
      repeat' ((first | (refine AG_of ?_ ?_ <;> intro h) | (refine AB_of ?_ ?_ <;> intro h) | (refine A_draw_of [] [] (by kernel_rfl) ?_ <;> have h := mark)) <;> simp only [go_sem, seval, eq_self, reduceCtorEq, Prg.v, cUb_at, spTrue_mv, spTrue_fn, spSpA_mv, hS, hol, hto, spFew_mv, hF, g1, g2, hBVl, hz, hrem, hquo, wq, zK, hKN2, qbv, hscA, hscE, f6, fA, fE, SB.v, z16, List.replicate, Int.toNat_natCast, List.length_map, g3, h])
      all_goals (first | refine fin_ret ?_ | refine fin_normal ?_)
      all_goals simp only [resOf, Tryz.results6, Tryz.ntmps6, go_sem, seval, eq_self, reduceCtorEq]
    have g3 : decide ((A.length : Int) < 2) = false := by simp; omega
    have hLz : ¬ ((A.length : Nat) : Int) = 0 := by omega
    have hI1 : R % A.length < A.length := Nat.mod_lt _ (by omega)
    have hJ1 : Q % A.length < A.length := Nat.mod_lt _ (by omega)
    have hremI : Int.tmod (R : Int) (A.length : Int) = ((R % A.length : Nat) : Int) := (Int.ofNat_tmod _ _).symm
    have hremJ : Int.tmod ((Q : Nat) : Int) (A.length : Int) = ((Q % A.length : Nat) : Int) := (Int.ofNat_tmod _ _).symm
    obtain ⟨I, hI⟩ : ∃ I, R % A.length = I := ⟨_, rfl⟩
    obtain ⟨J, hJ⟩ : ∃ J, Q % A.length = J := ⟨_, rfl⟩
    rw [hI] at hI1 hremI
    rw [hJ] at hJ1 hremJ
    have zI := Int.natCast_nonneg I
    have zJ := Int.natCast_nonneg J
    have hIL : (I : Int) < (A.length : Int) := by omega
    have hJL : (J : Int) < (A.length : Int) := by omega
    obtain ⟨u, qu⟩ : ∃ u, A[I]? = some u := ⟨A[I], List.getElem?_eq_getElem hI1⟩
    obtain ⟨v, qv⟩ : ∃ v, A[J]? = some v := ⟨A[J], List.getElem?_eq_getElem hJ1⟩
    have hsw := swap_iff qu qv
    have hceq := cell_beq u v
    have hcont : ((A.map Cell.v).set I v.v).set J u.v = ((A.set I v).set J u).map Cell.v := by rw [List.map_set, List.map_set]
    have hcl2 : ((A.set I v).set J u).length = A.length := by simp
    obtain ⟨L2, hL2⟩ : ∃ L2, (A.set I v).set J u = L2 := ⟨_, rfl⟩
    rw [hL2] at hsw hcont hcl2
    have hXI : (A.map Cell.v)[I]? = some u.v := by rw [List.getElem?_map, qu]; rfl
    have hXJ : (A.map Cell.v)[J]? = some v.v := by rw [List.getElem?_map, qv]; rfl
    have hXJ2 : ((A.map Cell.v).set I v.v)[J]? = some v.v := by
      rw [List.getElem?_set]
      split
      · rw [if_pos (by rw [List.length_map]; exact hI1)]
      · exact hXJ
    have hsc2 := scal_cell A
    obtain ⟨X, hX⟩ : ∃ X, A.map Cell.v = X := ⟨_, rfl⟩
    have hXl : X.length = A.length := by rw [← hX, List.length_map]
    have hsetB : BV.set K (SB.v ⟨f1, t1, nx, tk, L2, E⟩) = (BL.set K ⟨f1, t1, nx, tk, L2, E⟩).map SB.v := by rw [← hBV, List.map_set]
    have hfit3 : sbsFit (BL.set K ⟨f1, t1, nx, tk, L2, E⟩) = true := by
      unfold sbsFit
      simp only [Bool.and_eq_true, decide_eq_true_eq, List.all_eq_true]
      refine ⟨by rw [List.length_set]; omega, fun c hc => ?_⟩
      rcases List.mem_or_eq_of_mem_set hc with hc | rfl
      · exact hfit2 c hc
      · unfold sbFit
        simp only [Bool.and_eq_true, decide_eq_true_eq]
        omega
    have hR := spRightS_v (splOf_v false (BL.set K ⟨f1, t1, nx, tk, L2, E⟩) hol) hfit3 p
    have hd : rightS p ⟨BL.set K ⟨f1, t1, nx, tk, L2, E⟩, o⟩ = decide (u = v) := by
      unfold rightS
      rw [hc, Bool.true_and, hBL, decide_eq_decide, set_iff qb, ← hsw]
      constructor
      · intro h; injection h
      · intro h; rw [h]
    rw [hd, ← hsetB] at hR
    simp only [Prg.v, SB.v] at hR
    obtain ⟨dd, hdd⟩ : ∃ dd, decide (u = v) = dd := ⟨_, rfl⟩
    rw [hdd] at hR hceq
    rw [hX] at hXI hXJ hXJ2 hcont hsc2
    simp only [Cell.v] at hXI hXJ hXJ2 hcont
    simp only [go_sem, seval, eq_self, reduceCtorEq, Prg.v, cUb_at, spTrue_mv, spTrue_fn, spSpA_mv, hS, hol, hto, spFew_mv, hF, g1, g2, hBVl, hz, hrem, hquo, wq, zK, hKN2, qbv, hscA, hscE, f6, fA, fE, SB.v, z16, List.replicate, Int.toNat_natCast, List.length_map, hX, g3, hXl, hsc2]
    repeat' ((first | (refine AG_of ?_ ?_ <;> intro h) | (refine AB_of ?_ ?_ <;> intro h)) <;> simp only [go_sem, seval, eq_self, reduceCtorEq, Prg.v, cUb_at, spTrue_mv, spTrue_fn, spSpA_mv, hS, hol, hto, spFew_mv, hF, g1, g2, hBVl, hz, hrem, hquo, wq, zK, hKN2, qbv, hscA, hscE, f6, fA, fE, SB.v, z16, List.replicate, Int.toNat_natCast, List.length_map, hX, g3, hXl, hsc2, h])
    refine A_draw_of [53, 13] [53, 13, 1013053] (by kernel_rfl) ?_
    simp only [go_sem, seval, eq_self, reduceCtorEq, Prg.v, cUb_at, spTrue_mv, spTrue_fn, spSpA_mv, hS, hol, hto, spFew_mv, hF, g1, g2, hBVl, hz, hrem, hquo, wq, zK, hKN2, qbv, hscA, hscE, f6, fA, fE, SB.v, z16, List.replicate, Int.toNat_natCast, List.length_map, hX, g3, hXl, hsc2, hLz, hremI, hremJ]
    repeat' ((first | (refine AG_of ?_ ?_ <;> intro h) | (refine AB_of ?_ ?_ <;> intro h)) <;> simp only [go_sem, seval, eq_self, reduceCtorEq, Prg.v, cUb_at, spTrue_mv, spTrue_fn, spSpA_mv, hS, hol, hto, spFew_mv, hF, g1, g2, hBVl, hz, hrem, hquo, wq, zK, hKN2, qbv, hscA, hscE, f6, fA, fE, SB.v, z16, List.replicate, Int.toNat_natCast, List.length_map, hX, g3, hXl, hsc2, hLz, hremI, hremJ, h])
    refine A_draw_of [] [] (by kernel_rfl) ?_
    simp only [go_sem, seval, eq_self, reduceCtorEq, Prg.v, cUb_at, spTrue_mv, spTrue_fn, spSpA_mv, hS, hol, hto, spFew_mv, hF, g1, g2, hBVl, hz, hrem, hquo, wq, zK, hKN2, qbv, hscA, hscE, f6, fA, fE, SB.v, z16, List.replicate, Int.toNat_natCast, List.length_map, hX, hXl, hXI, hXJ, zI, zJ, hIL, hJL, hceq]
    repeat' ((first | (refine AG_of ?_ ?_ <;> intro h) | (refine AB_of ?_ ?_ <;> intro h)) <;> simp only [go_sem, seval, eq_self, reduceCtorEq, Prg.v, cUb_at, spTrue_mv, spTrue_fn, spSpA_mv, hS, hol, hto, spFew_mv, hF, g1, g2, hBVl, hz, hrem, hquo, wq, zK, hKN2, qbv, hscA, hscE, f6, fA, fE, SB.v, z16, List.replicate, Int.toNat_natCast, List.length_map, hX, hXl, hXI, hXJ, zI, zJ, hIL, hJL, hceq, h])
    refine A_draw_of [61] [100, 101, 104, 105, 106, 107] (by kernel_rfl) ?_
    simp only [go_sem, seval, eq_self, reduceCtorEq, Prg.v, cUb_at, spTrue_mv, spTrue_fn, spSpA_mv, hS, hol, hto, spFew_mv, hF, g1, g2, hBVl, hz, hrem, hquo, wq, zK, hKN2, qbv, hscA, hscE, f6, fA, fE, SB.v, z16, List.replicate, Int.toNat_natCast, List.length_map, hX, hXl, hXI, hXJ, hXJ2, hcont, zI, zJ, hIL, hJL, hcl2, hex, hKB, hl1, spRightS_mv, hR, beq_self_eq_true, List.length_set]
    repeat' ((first | (refine AG_of ?_ ?_ <;> intro h) | (refine AB_of ?_ ?_ <;> intro h) | (refine A_draw_of [] [] (by kernel_rfl) ?_ <;> have h := mark)) <;> simp only [go_sem, seval, eq_self, reduceCtorEq, Prg.v, cUb_at, spTrue_mv, spTrue_fn, spSpA_mv, hS, hol, hto, spFew_mv, hF, g1, g2, hBVl, hz, hrem, hquo, wq, zK, hKN2, qbv, hscA, hscE, f6, fA, fE, SB.v, z16, List.replicate, Int.toNat_natCast, List.length_map, hX, hXl, hXI, hXJ, hXJ2, hcont, zI, zJ, hIL, hJL, hcl2, hex, hKB, hl1, spRightS_mv, hR, beq_self_eq_true, List.length_set, h])
    all_goals (first | refine fin_ret ?_ | refine fin_normal ?_)
    all_goals simp only [resOf, Tryz.results6, Tryz.ntmps6, go_sem, seval, eq_self, reduceCtorEq]
  · -- one side
    by_cases h2 : E.length < 2
    · have g3 : decide ((E.length : Int) < 2) = true := by simp; omega
      simp only [go_sem, seval, eq_self, reduceCtorEq, Prg.v, cUb_at, spTrue_mv, spTrue_fn, spSpA_mv, hS, hol, hto, spFew_mv, hF, g1, g2, hBVl, hz, hrem, hquo, wq, zK, hKN2, qbv, hscA, hscE, f6, fA, fE, SB.v, z16, List.replicate, Int.toNat_natCast, List.length_map, g3]
      repeat' ((first | (refine AG_of ?_ ?_ <;> intro h) | (refine AB_of ?_ ?_ <;> intro h)) <;> simp only [go_sem, seval, eq_self, reduceCtorEq, Prg.v, cUb_at, spTrue_mv, spTrue_fn, spSpA_mv, hS, hol, hto, spFew_mv, hF, g1, g2, hBVl, hz, hrem, hquo, wq, zK, hKN2, qbv, hscA, hscE, f6, fA, fE, SB.v, z16, List.replicate, Int.toNat_natCast, List.length_map, g3, h])
      refine A_draw_of [53, 13] [53, 13, 1013053] (by kernel_rfl) ?_
      simp only [go_sem, seval, eq_self, reduceCtorEq, Prg.v, cUb_at, spTrue_mv, spTrue_fn, spSpA_mv, hS, hol, hto, spFew_mv, hF, g1, g2, hBVl, hz, hrem, hquo, wq, zK, hKN2, qbv, hscA, hscE, f6, fA, fE, SB.v, z16, List.replicate, Int.toNat_natCast, List.length_map, g3]
      repeat' ((first | (refine AG_of ?_ ?_ <;> intro h) | (refine AB_of ?_ ?_ <;> intro h) | (refine A_draw_of [] [] (by kernel_rfl) ?_ <;> have h := mark)) <;> simp only [go_sem, seval, eq_self, reduceCtorEq, Prg.v, cUb_at, spTrue_mv, spTrue_fn, spSpA_mv, hS, hol, hto, spFew_mv, hF, g1, g2, hBVl, hz, hrem, hquo, wq, zK, hKN2, qbv, hscA, hscE, f6, fA, fE, SB.v, z16, List.replicate, Int.toNat_natCast, List.length_map, g3, h])
      all_goals (first | refine fin_ret ?_ | refine fin_normal ?_)
      all_goals simp only [resOf, Tryz.results6, Tryz.ntmps6, go_sem, seval, eq_self, reduceCtorEq]
    have g3 : decide ((E.length : Int) < 2) = false := by simp; omega
    have hLz : ¬ ((E.length : Nat) : Int) = 0 := by omega
    have hI1 : R % E.length < E.length := Nat.mod_lt _ (by omega)
    have hJ1 : Q % E.length < E.length := Nat.mod_lt _ (by omega)
    have hremI : Int.tmod (R : Int) (E.length : Int) = ((R % E.length : Nat) : Int) := (Int.ofNat_tmod _ _).symm
    have hremJ : Int.tmod ((Q : Nat) : Int) (E.length : Int) = ((Q % E.length : Nat) : Int) := (Int.ofNat_tmod _ _).symm
    obtain ⟨I, hI⟩ : ∃ I, R % E.length = I := ⟨_, rfl⟩
    obtain ⟨J, hJ⟩ : ∃ J, Q % E.length = J := ⟨_, rfl⟩
    rw [hI] at hI1 hremI
    rw [hJ] at hJ1 hremJ
    have zI := Int.natCast_nonneg I
    have zJ := Int.natCast_nonneg J
    have hIL : (I : Int) < (E.length : Int) := by omega
    have hJL : (J : Int) < (E.length : Int) := by omega
    obtain ⟨u, qu⟩ : ∃ u, E[I]? = some u := ⟨E[I], List.getElem?_eq_getElem hI1⟩
    obtain ⟨v, qv⟩ : ∃ v, E[J]? = some v := ⟨E[J], List.getElem?_eq_getElem hJ1⟩
    have hsw := swap_iff qu qv
    have hceq := cell_beq u v
    have hcont : ((E.map Cell.v).set I v.v).set J u.v = ((E.set I v).set J u).map Cell.v := by rw [List.map_set, List.map_set]
    have hcl2 : ((E.set I v).set J u).length = E.length := by simp
    obtain ⟨L2, hL2⟩ : ∃ L2, (E.set I v).set J u = L2 := ⟨_, rfl⟩
    rw [hL2] at hsw hcont hcl2
    have hXI : (E.map Cell.v)[I]? = some u.v := by rw [List.getElem?_map, qu]; rfl
    have hXJ : (E.map Cell.v)[J]? = some v.v := by rw [List.getElem?_map, qv]; rfl
    have hXJ2 : ((E.map Cell.v).set I v.v)[J]? = some v.v := by
      rw [List.getElem?_set]
      split
      · rw [if_pos (by rw [List.length_map]; exact hI1)]
      · exact hXJ
    have hsc2 := scal_cell E
    obtain ⟨X, hX⟩ : ∃ X, E.map Cell.v = X := ⟨_, rfl⟩
    have hXl : X.length = E.length := by rw [← hX, List.length_map]
    have hsetB : BV.set K (SB.v ⟨f1, t1, nx, tk, A, L2⟩) = (BL.set K ⟨f1, t1, nx, tk, A, L2⟩).map SB.v := by rw [← hBV, List.map_set]
    have hfit3 : sbsFit (BL.set K ⟨f1, t1, nx, tk, A, L2⟩) = true := by
      unfold sbsFit
      simp only [Bool.and_eq_true, decide_eq_true_eq, List.all_eq_true]
      refine ⟨by rw [List.length_set]; omega, fun c hc => ?_⟩
      rcases List.mem_or_eq_of_mem_set hc with hc | rfl
      · exact hfit2 c hc
      · unfold sbFit
        simp only [Bool.and_eq_true, decide_eq_true_eq]
        omega
    have hR := spRightS_v (splOf_v false (BL.set K ⟨f1, t1, nx, tk, A, L2⟩) hol) hfit3 p
    have hd : rightS p ⟨BL.set K ⟨f1, t1, nx, tk, A, L2⟩, o⟩ = decide (u = v) := by
      unfold rightS
      rw [hc, Bool.true_and, hBL, decide_eq_decide, set_iff qb, ← hsw]
      constructor
      · intro h; injection h
      · intro h; rw [h]
    rw [hd, ← hsetB] at hR
    simp only [Prg.v, SB.v] at hR
    obtain ⟨dd, hdd⟩ : ∃ dd, decide (u = v) = dd := ⟨_, rfl⟩
    rw [hdd] at hR hceq
    rw [hX] at hXI hXJ hXJ2 hcont hsc2
    simp only [Cell.v] at hXI hXJ hXJ2 hcont
    simp only [go_sem, seval, eq_self, reduceCtorEq, Prg.v, cUb_at, spTrue_mv, spTrue_fn, spSpA_mv, hS, hol, hto, spFew_mv, hF, g1, g2, hBVl, hz, hrem, hquo, wq, zK, hKN2, qbv, hscA, hscE, f6, fA, fE, SB.v, z16, List.replicate, Int.toNat_natCast, List.length_map, hX, g3, hXl, hsc2]
    repeat' ((first | (refine AG_of ?_ ?_ <;> intro h) | (refine AB_of ?_ ?_ <;> intro h)) <;> simp only [go_sem, seval, eq_self, reduceCtorEq, Prg.v, cUb_at, spTrue_mv, spTrue_fn, spSpA_mv, hS, hol, hto, spFew_mv, hF, g1, g2, hBVl, hz, hrem, hquo, wq, zK, hKN2, qbv, hscA, hscE, f6, fA, fE, SB.v, z16, List.replicate, Int.toNat_natCast, List.length_map, hX, g3, hXl, hsc2, h])
    refine A_draw_of [53, 13] [53, 13, 1013053] (by kernel_rfl) ?_
    simp only [go_sem, seval, eq_self, reduceCtorEq, Prg.v, cUb_at, spTrue_mv, spTrue_fn, spSpA_mv, hS, hol, hto, spFew_mv, hF, g1, g2, hBVl, hz, hrem, hquo, wq, zK, hKN2, qbv, hscA, hscE, f6, fA, fE, SB.v, z16, List.replicate, Int.toNat_natCast, List.length_map, hX, g3, hXl, hsc2, hLz, hremI, hremJ]
    repeat' ((first | (refine AG_of ?_ ?_ <;> intro h) | (refine AB_of ?_ ?_ <;> intro h)) <;> simp only [go_sem, seval, eq_self, reduceCtorEq, Prg.v, cUb_at, spTrue_mv, spTrue_fn, spSpA_mv, hS, hol, hto, spFew_mv, hF, g1, g2, hBVl, hz, hrem, hquo, wq, zK, hKN2, qbv, hscA, hscE, f6, fA, fE, SB.v, z16, List.replicate, Int.toNat_natCast, List.length_map, hX, g3, hXl, hsc2, hLz, hremI, hremJ, h])
    refine A_draw_of [] [] (by kernel_rfl) ?_
    simp only [go_sem, seval, eq_self, reduceCtorEq, Prg.v, cUb_at, spTrue_mv, spTrue_fn, spSpA_mv, hS, hol, hto, spFew_mv, hF, g1, g2, hBVl, hz, hrem, hquo, wq, zK, hKN2, qbv, hscA, hscE, f6, fA, fE, SB.v, z16, List.replicate, Int.toNat_natCast, List.length_map, hX, hXl, hXI, hXJ, zI, zJ, hIL, hJL, hceq]
    repeat' ((first | (refine AG_of ?_ ?_ <;> intro h) | (refine AB_of ?_ ?_ <;> intro h)) <;> simp only [go_sem, seval, eq_self, reduceCtorEq, Prg.v, cUb_at, spTrue_mv, spTrue_fn, spSpA_mv, hS, hol, hto, spFew_mv, hF, g1, g2, hBVl, hz, hrem, hquo, wq, zK, hKN2, qbv, hscA, hscE, f6, fA, fE, SB.v, z16, List.replicate, Int.toNat_natCast, List.length_map, hX, hXl, hXI, hXJ, zI, zJ, hIL, hJL, hceq, h])
    refine A_draw_of [69] [100, 101, 104, 105, 106, 107] (by kernel_rfl) ?_
    simp only [go_sem, seval, eq_self, reduceCtorEq, Prg.v, cUb_at, spTrue_mv, spTrue_fn, spSpA_mv, hS, hol, hto, spFew_mv, hF, g1, g2, hBVl, hz, hrem, hquo, wq, zK, hKN2, qbv, hscA, hscE, f6, fA, fE, SB.v, z16, List.replicate, Int.toNat_natCast, List.length_map, hX, hXl, hXI, hXJ, hXJ2, hcont, zI, zJ, hIL, hJL, hcl2, hex, hKB, hl1, spRightS_mv, hR, beq_self_eq_true, List.length_set]
    repeat' ((first | (refine AG_of ?_ ?_ <;> intro h) | (refine AB_of ?_ ?_ <;> intro h) | (refine A_draw_of [] [] (by kernel_rfl) ?_ <;> have h := mark)) <;> simp only [go_sem, seval, eq_self, reduceCtorEq, Prg.v, cUb_at, spTrue_mv, spTrue_fn, spSpA_mv, hS, hol, hto, spFew_mv, hF, g1, g2, hBVl, hz, hrem, hquo, wq, zK, hKN2, qbv, hscA, hscE, f6, fA, fE, SB.v, z16, List.replicate, Int.toNat_natCast, List.length_map, hX, hXl, hXI, hXJ, hXJ2, hcont, zI, zJ, hIL, hJL, hcl2, hex, hKB, hl1, spRightS_mv, hR, beq_self_eq_true, List.length_set, h])
    all_goals (first | refine fin_ret ?_ | refine fin_normal ?_)
    all_goals simp only [resOf, Tryz.results6, Tryz.ntmps6, go_sem, seval, eq_self, reduceCtorEq]
theorem csw_ok {x : V} (h : ∃ p, prgOf x = some p ∧ p.data.all byte = true ∧ (∀ i ∈ p.code, WfI i) ∧ p.code.length ≤ maxLen ∧ p.data.length ≤ maxLen) {m n : Int} (hm : (Lit.int .i64 m).wf = true) (hn : (Lit.int .i64 n).wf = true) (b : Bool) : spCSw.fn [x, .s (.int .i64 m), .s (.int .i64 n), .s (.bool b)] = some (.s (.bool true)) := by
  obtain ⟨p, hp, _⟩ := h
  have h1 := wf_i64 hm
  have h2 := wf_i64 hn
  simp only [spCSw, hp, Option.bind_some]
  rw [if_pos (by omega)]

end Go.Proofs.YtkfmecmmbnehjaaGreat
