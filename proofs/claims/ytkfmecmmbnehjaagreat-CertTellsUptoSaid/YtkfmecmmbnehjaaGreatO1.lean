/-
Package isa, programs, targets, the reference's forms by the plain reckoning. No condition.
-/
import Derived.Test.YtkfmecmmbnehjaaGreatAbTy
import Derived.Test.YtkfmecmmbnehjaaGreatAbK
import Derived.Test.YtkfmecmmbnehjaaGreatPure
namespace Go.Proofs.YtkfmecmmbnehjaaGreat
set_option linter.unusedSimpArgs false
set_option linter.unusedVariables false

def Ins.v (i : Ins) : V := .agg [.s (.int .i64 i.op), .s (.int .i64 i.d), .s (.int .i64 i.a), .s (.int .i64 i.b), .s (.int .i64 i.imm)]

def spForm : Spec := ⟨[], fun xs => match xs with
  | [.s (.int .i64 n)] => some (.s (.int .i64 (form n)))
  | _ => none⟩
def spHasD : Spec := ⟨[], fun xs => match xs with
  | [.s (.int .i64 n)] => some (.s (.bool (hasDB n)))
  | _ => none⟩
def spHasA : Spec := ⟨[], fun xs => match xs with
  | [.s (.int .i64 n)] => some (.s (.bool (hasAB n)))
  | _ => none⟩
def spHasB : Spec := ⟨[], fun xs => match xs with
  | [.s (.int .i64 n)] => some (.s (.bool (hasBB n)))
  | _ => none⟩
def spHasImm : Spec := ⟨[], fun xs => match xs with
  | [.s (.int .i64 n)] => some (.s (.bool (hasImmB n)))
  | _ => none⟩
def spWithin : Spec := ⟨[], fun xs => match xs with
  | [.s (.int .i64 n), .s (.bool h), .s (.int .i64 l), .s (.int .i64 m)] => some (.s (.bool (withinB n h l m)))
  | _ => none⟩
def spRight : Spec := ⟨[], fun xs => match xs with
  | [.agg [.s (.int .i64 op), .s (.int .i64 d), .s (.int .i64 a), .s (.int .i64 b), .s (.int .i64 imm)]] => some (.s (.bool (rightB ⟨op, d, a, b, imm⟩)))
  | _ => none⟩

theorem form_impl : Impl Tryz.prog 78 spForm := by
  refine impl_walk mixed orc0_ok eqT_ok Tryz.func78 rfl Tryz.ntmps78 (by kernel_rfl) ?_
  intro xs r h
  unfold spForm at h
  simp only at h
  (try split at h) <;> try (cases (show none = some r from h); done)
  cases h
  refine ⟨by simp, ?_⟩
  simp only [go_sem, seval, eq_self, reduceCtorEq]
  repeat' ((first | (refine AG_of ?_ ?_ <;> intro h) | (refine AB_of ?_ ?_ <;> intro h) | (refine A_draw_of [] [] (by kernel_rfl) ?_ <;> have h := mark)) <;> simp only [go_sem, seval, eq_self, reduceCtorEq, h])
  all_goals (first | refine fin_ret ?_ | refine fin_normal ?_)
  all_goals simp only [resOf, Tryz.results78, Tryz.ntmps78, go_sem, seval, eq_self, reduceCtorEq]
  all_goals (unfold form; simp at *; (repeat' split) <;> first | rfl | omega)

theorem hasD_impl : Impl Tryz.prog 108 spHasD := by
  refine impl_walk mixed orc0_ok eqT_ok Tryz.func108 rfl Tryz.ntmps108 (by kernel_rfl) ?_
  intro xs r h
  unfold spHasD at h
  simp only at h
  (try split at h) <;> try (cases (show none = some r from h); done)
  cases h
  refine ⟨by simp, ?_⟩
  simp only [go_sem, seval, eq_self, reduceCtorEq]
  repeat' ((first | (refine AG_of ?_ ?_ <;> intro h) | (refine AB_of ?_ ?_ <;> intro h) | (refine A_draw_of [] [] (by kernel_rfl) ?_ <;> have h := mark)) <;> simp only [go_sem, seval, eq_self, reduceCtorEq, h])
  all_goals (first | refine fin_ret ?_ | refine fin_normal ?_)
  all_goals simp only [resOf, Tryz.results108, Tryz.ntmps108, go_sem, seval, eq_self, reduceCtorEq]
  all_goals (simp [hasDB] at * <;> omega)

theorem hasA_impl : Impl Tryz.prog 109 spHasA := by
  refine impl_walk mixed orc0_ok eqT_ok Tryz.func109 rfl Tryz.ntmps109 (by kernel_rfl) ?_
  intro xs r h
  unfold spHasA at h
  simp only at h
  (try split at h) <;> try (cases (show none = some r from h); done)
  cases h
  refine ⟨by simp, ?_⟩
  simp only [go_sem, seval, eq_self, reduceCtorEq]
  repeat' ((first | (refine AG_of ?_ ?_ <;> intro h) | (refine AB_of ?_ ?_ <;> intro h) | (refine A_draw_of [] [] (by kernel_rfl) ?_ <;> have h := mark)) <;> simp only [go_sem, seval, eq_self, reduceCtorEq, h])
  all_goals (first | refine fin_ret ?_ | refine fin_normal ?_)
  all_goals simp only [resOf, Tryz.results109, Tryz.ntmps109, go_sem, seval, eq_self, reduceCtorEq]
  all_goals simp [hasAB, *]

theorem hasB_impl : Impl Tryz.prog 110 spHasB := by
  refine impl_walk mixed orc0_ok eqT_ok Tryz.func110 rfl Tryz.ntmps110 (by kernel_rfl) ?_
  intro xs r h
  unfold spHasB at h
  simp only at h
  (try split at h) <;> try (cases (show none = some r from h); done)
  cases h
  refine ⟨by simp, ?_⟩
  simp only [go_sem, seval, eq_self, reduceCtorEq]
  repeat' ((first | (refine AG_of ?_ ?_ <;> intro h) | (refine AB_of ?_ ?_ <;> intro h) | (refine A_draw_of [] [] (by kernel_rfl) ?_ <;> have h := mark)) <;> simp only [go_sem, seval, eq_self, reduceCtorEq, h])
  all_goals (first | refine fin_ret ?_ | refine fin_normal ?_)
  all_goals simp only [resOf, Tryz.results110, Tryz.ntmps110, go_sem, seval, eq_self, reduceCtorEq]
  all_goals simp [hasBB, *]

theorem hasImm_impl : Impl Tryz.prog 111 spHasImm := by
  refine impl_walk mixed orc0_ok eqT_ok Tryz.func111 rfl Tryz.ntmps111 (by kernel_rfl) ?_
  intro xs r h
  unfold spHasImm at h
  simp only at h
  (try split at h) <;> try (cases (show none = some r from h); done)
  cases h
  refine ⟨by simp, ?_⟩
  simp only [go_sem, seval, eq_self, reduceCtorEq]
  repeat' ((first | (refine AG_of ?_ ?_ <;> intro h) | (refine AB_of ?_ ?_ <;> intro h) | (refine A_draw_of [] [] (by kernel_rfl) ?_ <;> have h := mark)) <;> simp only [go_sem, seval, eq_self, reduceCtorEq, h])
  all_goals (first | refine fin_ret ?_ | refine fin_normal ?_)
  all_goals simp only [resOf, Tryz.results111, Tryz.ntmps111, go_sem, seval, eq_self, reduceCtorEq]
  all_goals (simp [hasImmB] at * <;> omega)

theorem within_impl : Impl Tryz.prog 107 spWithin := by
  refine impl_walk mixed orc0_ok eqT_ok Tryz.func107 rfl Tryz.ntmps107 (by kernel_rfl) ?_
  intro xs r h
  unfold spWithin at h
  simp only at h
  (try split at h) <;> try (cases (show none = some r from h); done)
  rename_i n hh l m
  cases h
  refine ⟨by simp, ?_⟩
  cases hh
  all_goals
  simp only [go_sem, seval, eq_self, reduceCtorEq]
  repeat' ((first | (refine AG_of ?_ ?_ <;> intro h) | (refine AB_of ?_ ?_ <;> intro h) | (refine A_draw_of [] [] (by kernel_rfl) ?_ <;> have h := mark)) <;> simp only [go_sem, seval, eq_self, reduceCtorEq, h])
  all_goals (first | refine fin_ret ?_ | refine fin_normal ?_)
  all_goals simp only [resOf, Tryz.results107, Tryz.ntmps107, go_sem, seval, eq_self, reduceCtorEq]
  all_goals (simp [withinB] at * <;> omega)

def cIsa1 : Orc := upd (upd (upd (upd (upd (upd orc0 78 (some spForm)) 108 (some spHasD)) 109 (some spHasA)) 110 (some spHasB)) 111 (some spHasImm)) 107 (some spWithin)
theorem cIsa1_ok : ∀ g sp, cIsa1 g = some sp → Impl Tryz.prog g sp :=
  orc_upd (orc_upd (orc_upd (orc_upd (orc_upd (orc_upd orc0_ok form_impl) hasD_impl) hasA_impl) hasB_impl) hasImm_impl) within_impl

theorem cIsa1_at : cIsa1 78 = some spForm ∧ cIsa1 108 = some spHasD ∧ cIsa1 109 = some spHasA ∧ cIsa1 110 = some spHasB ∧ cIsa1 111 = some spHasImm ∧ cIsa1 107 = some spWithin := ⟨rfl, rfl, rfl, rfl, rfl, rfl⟩

theorem spForm_mv : spForm.mv = [] := rfl
theorem spForm_fn (n : Int) : spForm.fn [.s (.int .i64 n)] = some (.s (.int .i64 (form n))) := rfl
theorem spHasD_mv : spHasD.mv = [] := rfl
theorem spHasD_fn (n : Int) : spHasD.fn [.s (.int .i64 n)] = some (.s (.bool (hasDB n))) := rfl
theorem spHasA_mv : spHasA.mv = [] := rfl
theorem spHasA_fn (n : Int) : spHasA.fn [.s (.int .i64 n)] = some (.s (.bool (hasAB n))) := rfl
theorem spHasB_mv : spHasB.mv = [] := rfl
theorem spHasB_fn (n : Int) : spHasB.fn [.s (.int .i64 n)] = some (.s (.bool (hasBB n))) := rfl
theorem spHasImm_mv : spHasImm.mv = [] := rfl
theorem spHasImm_fn (n : Int) : spHasImm.fn [.s (.int .i64 n)] = some (.s (.bool (hasImmB n))) := rfl
theorem spWithin_mv : spWithin.mv = [] := rfl
theorem spWithin_fn (n l m : Int) (h : Bool) : spWithin.fn [.s (.int .i64 n), .s (.bool h), .s (.int .i64 l), .s (.int .i64 m)] = some (.s (.bool (withinB n h l m))) := rfl

set_option maxHeartbeats 1000000 in
theorem right_impl : Impl Tryz.prog 81 spRight := by
  refine impl_walk mixed cIsa1_ok eqT_ok Tryz.func81 rfl Tryz.ntmps81 (by kernel_rfl) ?_
  intro xs r h
  unfold spRight at h
  simp only at h
  (try split at h) <;> try (cases (show none = some r from h); done)
  rename_i op d a b imm
  cases h
  refine ⟨by simp, ?_⟩
  simp only [go_sem, seval, eq_self, reduceCtorEq, cIsa1_at, spForm_mv, spForm_fn, spHasD_mv, spHasD_fn, spHasA_mv, spHasA_fn, spHasB_mv, spHasB_fn, spHasImm_mv, spHasImm_fn, spWithin_mv, spWithin_fn]
  repeat' ((first | (refine AG_of ?_ ?_ <;> intro h) | (refine AB_of ?_ ?_ <;> intro h) | (refine A_draw_of [] [] (by kernel_rfl) ?_ <;> have h := mark)) <;> simp only [go_sem, seval, eq_self, reduceCtorEq, cIsa1_at, spForm_mv, spForm_fn, spHasD_mv, spHasD_fn, spHasA_mv, spHasA_fn, spHasB_mv, spHasB_fn, spHasImm_mv, spHasImm_fn, spWithin_mv, spWithin_fn, h])
  all_goals (first | refine fin_ret ?_ | refine fin_normal ?_)
  all_goals simp only [resOf, Tryz.results81, Tryz.ntmps81, go_sem, seval, eq_self, reduceCtorEq]
  all_goals (simp [rightB, shiftB, loB, hiB, *])

def cIsa2 : Orc := upd cIsa1 81 (some spRight)
theorem cIsa2_ok : ∀ g sp, cIsa2 g = some sp → Impl Tryz.prog g sp := orc_upd cIsa1_ok right_impl
theorem cIsa2_at : cIsa2 81 = some spRight ∧ cIsa2 78 = some spForm ∧ cIsa2 108 = some spHasD ∧ cIsa2 109 = some spHasA ∧ cIsa2 110 = some spHasB := ⟨rfl, rfl, rfl, rfl, rfl⟩
theorem spRight_mv : spRight.mv = [] := rfl
theorem spRight_fn (op d a b imm : Int) : spRight.fn [.agg [.s (.int .i64 op), .s (.int .i64 d), .s (.int .i64 a), .s (.int .i64 b), .s (.int .i64 imm)]] = some (.s (.bool (rightB ⟨op, d, a, b, imm⟩))) := rfl

def ownOr (e : Nat) (l : List V) : V := if l.isEmpty then .s (.slice none 0 0) else .own 1 e l
def spReads : Spec := ⟨[], fun xs => match xs with
  | [.agg [.s (.int .i64 op), .s (.int .i64 d), .s (.int .i64 a), .s (.int .i64 b), .s (.int .i64 imm)]] => some (ownOr 3 ((readsL ⟨op, d, a, b, imm⟩).map fun x => .s (.int .i64 x)))
  | _ => none⟩

set_option maxHeartbeats 1000000 in
theorem reads_impl : Impl Tryz.prog 112 spReads := by
  refine impl_walk mixed cIsa2_ok eqT_ok Tryz.func112 rfl Tryz.ntmps112 (by kernel_rfl) ?_
  intro xs r h
  unfold spReads at h
  simp only at h
  (try split at h) <;> try (cases (show none = some r from h); done)
  rename_i op d a b imm
  cases h
  refine ⟨by simp, ?_⟩
  simp only [go_sem, seval, eq_self, reduceCtorEq, cIsa2_at, spRight_mv, spRight_fn, spForm_mv, spForm_fn, spHasA_mv, spHasA_fn, spHasB_mv, spHasB_fn]
  repeat' ((first | (refine AG_of ?_ ?_ <;> intro h) | (refine AB_of ?_ ?_ <;> intro h) | (refine A_draw_of [] [] (by kernel_rfl) ?_ <;> have h := mark)) <;> simp only [go_sem, seval, eq_self, reduceCtorEq, cIsa2_at, spRight_mv, spRight_fn, spForm_mv, spForm_fn, spHasA_mv, spHasA_fn, spHasB_mv, spHasB_fn, h])
  all_goals (first | refine fin_ret ?_ | refine fin_normal ?_)
  all_goals simp only [resOf, Tryz.results112, Tryz.ntmps112, go_sem, seval, eq_self, reduceCtorEq]
  all_goals (simp [readsL, ownOr, *] at *; try simp_all)

theorem spReads_mv : spReads.mv = [] := rfl

structure Prg where
  code : List Ins
  size : Int
  data : List Int

def u8v (b : Int) : V := .s (.int .u8 b)
def Prg.v (p : Prg) : V := .agg [.lst false 5 (p.code.map Ins.v), .s (.int .i64 p.size), .lst false 1 (p.data.map u8v)]

def insOf : V → Option Ins
  | .agg [.s (.int .i64 op), .s (.int .i64 d), .s (.int .i64 a), .s (.int .i64 b), .s (.int .i64 imm)] => some ⟨op, d, a, b, imm⟩
  | _ => none
theorem insOf_eq {x : V} {i : Ins} (h : insOf x = some i) : x = i.v := by
  unfold insOf at h
  split at h
  · cases h; rfl
  · cases h
theorem insOf_v (i : Ins) : insOf i.v = some i := rfl
def u8Of : V → Option Int
  | .s (.int .u8 b) => some b
  | _ => none
theorem u8Of_eq {x : V} {i : Int} (h : u8Of x = some i) : x = u8v i := by
  unfold u8Of at h
  split at h
  · cases h; rfl
  · cases h

theorem mapM_eq {α : Type} {f : V → Option α} {g : α → V} (h : ∀ x a, f x = some a → x = g a) : ∀ {l : List V} {c : List α}, l.mapM f = some c → l = c.map g
  | [], c, e => by simp at e; subst e; rfl
  | x :: l, c, e => by
    rw [mapM_cons'] at e
    obtain ⟨a, ha, e⟩ := Option.bind_eq_some_iff.1 e
    obtain ⟨a2, has, e⟩ := Option.bind_eq_some_iff.1 e
    cases e
    rw [List.map_cons, ← h x a ha, ← mapM_eq h has]
theorem mapM_of {α : Type} {f : V → Option α} {g : α → V} (h : ∀ a, f (g a) = some a) : ∀ (c : List α), (c.map g).mapM f = some c
  | [] => by simp
  | a :: c => by rw [List.map_cons, mapM_cons', h, mapM_of h c]; rfl

/-- a slice that is read, nil or not -/
def lOf (sz : Nat) : V → Option (List V)
  | .lst _ sz' l => if sz' = sz then some l else none
  | .s (.slice none 0 0) => some []
  | _ => none
theorem lOf_sees {sz : Nat} {x : V} {l : List V} (h : lOf sz x = some l) : Sees x (.lst false sz l) := by
  unfold lOf at h
  split at h
  · split at h
    · rename_i e
      subst e
      cases h
      exact .inr ⟨rfl, rfl, fun _ _ _ _ hr => hr.unfr⟩
    · cases h
  · cases h
    refine .inr ⟨rfl, rfl, fun _ _ _ _ hr => ?_⟩
    cases hr
    exact .lst _ false sz [] none 0 [] (Nat.le_refl _) (fun x hx => by simp at hx) rfl (fun i u x hu => by simp at hu) (fun u hu => by simp at hu) (.inl rfl)
  · cases h

def prgOf : V → Option Prg
  | .agg [c, .s (.int .i64 n), d] => (lOf 5 c).bind fun c => (c.mapM insOf).bind fun c => (lOf 1 d).bind fun d => (d.mapM u8Of).bind fun d => some ⟨c, n, d⟩
  | _ => none
theorem prgOf_v (p : Prg) : prgOf p.v = some p := by
  simp only [prgOf, Prg.v, lOf, if_true, Option.bind_some, mapM_of insOf_v, mapM_of (f := u8Of) (g := u8v) fun _ => rfl]
theorem prgOf_sees {x : V} {p : Prg} (h : prgOf x = some p) : Sees x p.v := by
  unfold prgOf at h
  split at h
  · rename_i c n d
    obtain ⟨c1, h1, h⟩ := Option.bind_eq_some_iff.1 h
    obtain ⟨c2, h2, h⟩ := Option.bind_eq_some_iff.1 h
    obtain ⟨d1, h3, h⟩ := Option.bind_eq_some_iff.1 h
    obtain ⟨d2, h4, h⟩ := Option.bind_eq_some_iff.1 h
    cases h
    have e1 := mapM_eq (fun _ _ => insOf_eq) h2
    have e2 := mapM_eq (fun _ _ => u8Of_eq) h4
    subst e1; subst e2
    exact Sees.agg (.cons (lOf_sees h1) (.cons .same (.cons (lOf_sees h3) .nil)))
  · cases h
theorem prg_args {x : V} {p : Prg} (h : prgOf x = some p) (xs : List V) : ∀ w J vs, Args w J vs (x :: xs) → Args w J vs (p.v :: xs) := (SeesL.cons (prgOf_sees h) .same).args
/-- .. of slices -/
theorem lst_args {sz : Nat} {x : V} {l : List V} (h : lOf sz x = some l) (xs : List V) : ∀ w J vs, Args w J vs (x :: xs) → Args w J vs (.lst false sz l :: xs) := (SeesL.cons (lOf_sees h) .same).args

def cImg0 : Orc := upd cIsa2 112 (some spReads)
theorem cImg0_ok : ∀ g sp, cImg0 g = some sp → Impl Tryz.prog g sp := orc_upd cIsa2_ok reads_impl
theorem cImg0_at : cImg0 78 = some spForm ∧ cImg0 81 = some spRight ∧ cImg0 112 = some spReads := ⟨rfl, rfl, rfl⟩

def spTarget : Spec := ⟨[], fun xs => match xs with
  | [x, .s (.int .i64 n)] => (prgOf x).bind fun p => if 0 ≤ n then (p.code[n.toNat]?).bind fun i => some (.tup [.s (.int .i64 (IntKind.i64.wrap (n + i.imm))), .s (.bool (form i.op == 6 || form i.op == 7))]) else none
  | _ => none⟩

theorem target_impl : Impl Tryz.prog 79 spTarget := by
  refine impl_walk2 mixed cImg0_ok eqT_ok Tryz.func79 rfl Tryz.ntmps79 (by kernel_rfl) ?_
  intro xs r h
  unfold spTarget at h
  simp only at h
  (try split at h) <;> try (cases (show none = some r from h); done)
  rename_i x n
  obtain ⟨p, hp, h⟩ := Option.bind_eq_some_iff.1 h
  split at h
  case isFalse => cases h
  rename_i h0
  obtain ⟨⟨op, d, a, b, imm⟩, hi, h⟩ := Option.bind_eq_some_iff.1 h
  cases h
  obtain ⟨code, size, data⟩ := p
  simp only at hi
  refine ⟨_, prg_args hp _, by simp, ?_⟩
  simp only [go_sem, seval, eq_self, reduceCtorEq, cImg0_at, spForm_mv, spForm_fn, Prg.v, List.getElem?_map, hi, h0, Ins.v]
  repeat' ((first | (refine AG_of ?_ ?_ <;> intro h) | (refine AB_of ?_ ?_ <;> intro h) | (refine A_draw_of [] [] (by kernel_rfl) ?_ <;> have h := mark)) <;> simp only [go_sem, seval, eq_self, reduceCtorEq, cImg0_at, spForm_mv, spForm_fn, Prg.v, List.getElem?_map, hi, h0, Ins.v, h])
  all_goals (first | refine fin_ret ?_ | refine fin_normal ?_)
  all_goals simp only [resOf, Tryz.results79, Tryz.ntmps79, go_sem, seval, eq_self, reduceCtorEq]
  all_goals (simp_all)

def spSizes : Spec := ⟨[], fun xs => match xs with
  | [.s (.int .i64 c), .s (.int .i64 s), .s (.int .i64 d)] => some (.s (.bool (decide (1 ≤ c) && decide (c ≤ 2000) && decide (0 ≤ s) && decide (s ≤ 65536) && decide (d ≤ s))))
  | _ => none⟩
theorem sizes_impl : Impl Tryz.prog 96 spSizes := by
  refine impl_walk mixed cImg0_ok eqT_ok Tryz.func96 rfl Tryz.ntmps96 (by kernel_rfl) ?_
  intro xs r h
  unfold spSizes at h
  simp only at h
  (try split at h) <;> try (cases (show none = some r from h); done)
  cases h
  refine ⟨by simp, ?_⟩
  simp only [go_sem, seval, eq_self, reduceCtorEq]
  repeat' ((first | (refine AG_of ?_ ?_ <;> intro h) | (refine AB_of ?_ ?_ <;> intro h) | (refine A_draw_of [] [] (by kernel_rfl) ?_ <;> have h := mark)) <;> simp only [go_sem, seval, eq_self, reduceCtorEq, h])
  all_goals (first | refine fin_ret ?_ | refine fin_normal ?_)
  all_goals simp only [resOf, Tryz.results96, Tryz.ntmps96, go_sem, seval, eq_self, reduceCtorEq]
  all_goals (simp_all)

def spWrong : Spec := ⟨[], fun xs => match xs with
  | [x] => (insOf x).bind fun i => some (.s (.bool (!rightB i)))
  | _ => none⟩
theorem wrong_impl : Impl Tryz.prog 95 spWrong := by
  refine impl_walk mixed cImg0_ok eqT_ok Tryz.func95 rfl Tryz.ntmps95 (by kernel_rfl) ?_
  intro xs r h
  unfold spWrong at h
  simp only at h
  (try split at h) <;> try (cases (show none = some r from h); done)
  rename_i x
  obtain ⟨⟨op, d, a, b, imm⟩, hi, h⟩ := Option.bind_eq_some_iff.1 h
  cases h
  have := insOf_eq hi
  subst this
  refine ⟨by simp, ?_⟩
  simp only [go_sem, seval, eq_self, reduceCtorEq, cImg0_at, spRight_mv, spRight_fn, Ins.v]
  repeat' ((first | (refine AG_of ?_ ?_ <;> intro h) | (refine AB_of ?_ ?_ <;> intro h) | (refine A_draw_of [] [] (by kernel_rfl) ?_ <;> have h := mark)) <;> simp only [go_sem, seval, eq_self, reduceCtorEq, cImg0_at, spRight_mv, spRight_fn, Ins.v, h])
  all_goals (first | refine fin_ret ?_ | refine fin_normal ?_)
  all_goals simp only [resOf, Tryz.results95, Tryz.ntmps95, go_sem, seval, eq_self, reduceCtorEq]

theorem rform_impl : Impl Tryz.prog 55 spForm := by
  refine impl_walk mixed cImg0_ok eqT_ok Tryz.func55 rfl Tryz.ntmps55 (by kernel_rfl) ?_
  intro xs r h
  unfold spForm at h
  simp only at h
  (try split at h) <;> try (cases (show none = some r from h); done)
  cases h
  refine ⟨by simp, ?_⟩
  simp only [go_sem, seval, eq_self, reduceCtorEq]
  repeat' ((first | (refine AG_of ?_ ?_ <;> intro h) | (refine AB_of ?_ ?_ <;> intro h) | (refine A_draw_of [] [] (by kernel_rfl) ?_ <;> have h := mark)) <;> simp only [go_sem, seval, eq_self, reduceCtorEq, h])
  all_goals (first | refine fin_ret ?_ | refine fin_normal ?_)
  all_goals simp only [resOf, Tryz.results55, Tryz.ntmps55, go_sem, seval, eq_self, reduceCtorEq]
  all_goals (unfold form; simp at *; (repeat' split) <;> first | rfl | omega)

def spHas : Spec := ⟨[], fun xs => match xs with
  | [.s (.int .i64 f)] => some (.tup [.s (.bool (hasDB f)), .s (.bool (hasAB f)), .s (.bool (hasBB f)), .s (.bool (hasImmB f))])
  | _ => none⟩
set_option maxHeartbeats 1000000 in
theorem rhas_impl : Impl Tryz.prog 92 spHas := by
  refine impl_walk mixed cImg0_ok eqT_ok Tryz.func92 rfl Tryz.ntmps92 (by kernel_rfl) ?_
  intro xs r h
  unfold spHas at h
  simp only at h
  (try split at h) <;> try (cases (show none = some r from h); done)
  rename_i f
  cases h
  refine ⟨by simp, ?_⟩
  simp only [go_sem, seval, eq_self, reduceCtorEq]
  repeat' ((first | (refine AG_of ?_ ?_ <;> intro h) | (refine AB_of ?_ ?_ <;> intro h) | (refine A_draw_of [] [] (by kernel_rfl) ?_ <;> have h := mark)) <;> simp only [go_sem, seval, eq_self, reduceCtorEq, h])
  all_goals (first | refine fin_ret ?_ | refine fin_normal ?_)
  all_goals simp only [resOf, Tryz.results92, Tryz.ntmps92, go_sem, seval, eq_self, reduceCtorEq]
  all_goals
    simp only [beq_iff_eq, beq_eq_false_iff_ne, ne_eq] at *
    simp [hasDB, hasAB, hasBB, hasImmB]
    omega

def spReg : Spec := ⟨[], fun xs => match xs with
  | [.s (.int .i64 n), .s (.bool b)] => some (.s (.bool (regB n b)))
  | _ => none⟩
theorem rreg_impl : Impl Tryz.prog 94 spReg := by
  refine impl_walk mixed cImg0_ok eqT_ok Tryz.func94 rfl Tryz.ntmps94 (by kernel_rfl) ?_
  intro xs r h
  unfold spReg at h
  simp only at h
  (try split at h) <;> try (cases (show none = some r from h); done)
  rename_i n b
  cases h
  refine ⟨by simp, ?_⟩
  cases b
  all_goals
  simp only [go_sem, seval, eq_self, reduceCtorEq]
  repeat' ((first | (refine AG_of ?_ ?_ <;> intro h) | (refine AB_of ?_ ?_ <;> intro h) | (refine A_draw_of [] [] (by kernel_rfl) ?_ <;> have h := mark)) <;> simp only [go_sem, seval, eq_self, reduceCtorEq, h])
  all_goals (first | refine fin_ret ?_ | refine fin_normal ?_)
  all_goals simp only [resOf, Tryz.results94, Tryz.ntmps94, go_sem, seval, eq_self, reduceCtorEq]
  all_goals (simp_all [regB] <;> omega)

end Go.Proofs.YtkfmecmmbnehjaaGreat
