/-
Whether a predicate is true of one of a list; right programs, few instructions, by the plain reckoning. No condition.
-/
import Derived.Test.YtkfmecmmbnehjaaGreatO2
namespace Go.Proofs.YtkfmecmmbnehjaaGreat
set_option linter.unusedSimpArgs false
set_option linter.unusedVariables false

def iv (n : Int) : V := .s (.int .i64 n)
def i64Of : V → Option Int
  | .s (.int .i64 n) => some n
  | _ => none
theorem i64Of_eq {x : V} {i : Int} (h : i64Of x = some i) : x = iv i := by
  unfold i64Of at h
  split at h
  · cases h; rfl
  · cases h
theorem i64Of_v (n : Int) : i64Of (iv n) = some n := rfl

/-- the first of a list of which a function's contract says true -/
def idxV (C : Orc) (g : Nat) (caps : List V) : List V → Nat → Option Int
  | [], _ => some (-1)
  | e :: l, k => match C g with
    | some sp => (match sp.fn (e :: caps) with
      | some (.s (.bool true)) => some (k : Int)
      | some (.s (.bool false)) => idxV C g caps l (k + 1)
      | _ => none)
    | none => none
/-- what a function holds on to: nothing, or one box that it reads -/
def capsOk : List V → Bool
  | [] => true
  | [.ept _] => true
  | _ => false
theorem capsOk_cases {caps : List V} (h : capsOk caps = true) : caps = [] ∨ ∃ q, caps = [.ept q] := by
  unfold capsOk at h
  split at h
  · exact .inl rfl
  · exact .inr ⟨_, rfl⟩
  · cases h
def mvOk (C : Orc) (g : Nat) : Bool := match C g with
  | some sp => sp.mv.isEmpty
  | none => false
theorem mvOk_of {C : Orc} {g : Nat} (h : mvOk C g = true) : ∃ sp, C g = some sp ∧ sp.mv = [] := by
  unfold mvOk at h
  split at h
  · rename_i sp hsp
    exact ⟨sp, hsp, by simpa using h⟩
  · cases h
theorem mvOk_mk {C : Orc} {g : Nat} {sp : Spec} (h : C g = some sp) (k : sp.mv = []) : mvOk C g = true := by
  unfold mvOk
  rw [h]; simp [k]
theorem idxV_any {C : Orc} {g : Nat} {caps : List V} {sp : Spec} (hC : C g = some sp) {α : Type} (enc : α → V) (b : α → Bool) : ∀ (l : List α) (k : Nat), (∀ a ∈ l, sp.fn (enc a :: caps) = some (.s (.bool (b a)))) → ∃ n, idxV C g caps (l.map enc) k = some n ∧ decide (0 ≤ n) = l.any b
  | [], k, _ => ⟨-1, rfl, rfl⟩
  | a :: l, k, h => by
    have h1 := h a (by simp)
    rw [List.map_cons, idxV, hC]
    simp only [h1]
    cases hb : b a
    · obtain ⟨n, h2, h3⟩ := idxV_any hC enc b l (k + 1) (fun x hx => h x (by simp [hx]))
      exact ⟨n, h2, by rw [h3]; simp [hb]⟩
    · exact ⟨k, rfl, by simp [hb]⟩


def spIdxFI (C : Orc) : Spec := ⟨[], fun xs => match xs with
  | [x, .fn g caps] => (lOf 1 x).bind fun l => (l.mapM i64Of).bind fun c => if c.length ≤ 1000000000 ∧ capsOk caps = true ∧ mvOk C g = true then (idxV C g caps (c.map iv) 0).map fun n => .s (.int .i64 n) else none
  | _ => none⟩
def spContFI (C : Orc) : Spec := ⟨[], fun xs => match xs with
  | [x, .fn g caps] => (lOf 1 x).bind fun l => (l.mapM i64Of).bind fun c => if c.length ≤ 1000000000 ∧ capsOk caps = true ∧ mvOk C g = true then (idxV C g caps (c.map iv) 0).map fun n => .s (.bool (decide (0 ≤ n))) else none
  | _ => none⟩
theorem spIdxFI_mv (C : Orc) : (spIdxFI C).mv = [] := rfl
theorem spContFI_mv (C : Orc) : (spContFI C).mv = [] := rfl
def idxII (C : Orc) (g : Nat) (caps : List V) (c : List Int) (s : S) : Prop :=
  s.env 0 = .lst false 1 (c.map iv) ∧ s.env 1 = .fn g caps ∧ s.env 7 = .s (.int .i64 c.length) ∧
  ∃ k : Nat, s.env 8 = .s (.int .i64 k) ∧ k ≤ c.length ∧ idxV C g caps (c.map iv) 0 = idxV C g caps ((c.drop k).map iv) k
set_option maxHeartbeats 2000000 in
theorem idxFI_impl {C : Orc} (hC : ∀ g sp, C g = some sp → Impl Tryz.prog g sp) : Impl Tryz.prog 98 (spIdxFI C) := by
  refine impl_walk2 mixed hC eqT_ok Tryz.func98 rfl Tryz.ntmps98 (by kernel_rfl) ?_
  intro xs r h
  unfold spIdxFI at h
  simp only at h
  (try split at h) <;> try (cases (show none = some r from h); done)
  rename_i x g caps
  obtain ⟨l, hl, h3⟩ := Option.bind_eq_some_iff.1 h
  obtain ⟨c, h2, h4⟩ := Option.bind_eq_some_iff.1 h3
  have e := mapM_eq (fun _ _ => i64Of_eq) h2
  clear h h3
  subst e
  split at h4
  case isFalse => cases h4
  rename_i hh
  obtain ⟨hlen, hcaps, hmv⟩ := hh
  obtain ⟨nr, hnr, rfl⟩ := Option.map_eq_some_iff.1 h4
  obtain ⟨sp, hsp, hmv2⟩ := mvOk_of hmv
  refine ⟨_, lst_args hl _, by simp, ?_⟩
  simp only [go_sem, seval, eq_self, reduceCtorEq, List.length_map]
  repeat' ((first | (refine AG_of ?_ ?_ <;> intro h) | (refine AB_of ?_ ?_ <;> intro h) | (refine A_draw_of [] [] (by kernel_rfl) ?_ <;> have h := mark)) <;> simp only [go_sem, seval, eq_self, reduceCtorEq, List.length_map, h])
  refine A_loop (idxII C g caps c) (fun s => c.length - (numOf (s.env 8)).toNat) ?_ ?_
  · refine ⟨by simp [upd, init, V.unfr], by rcases capsOk_cases hcaps with rfl | ⟨q, rfl⟩ <;> simp [upd, init, V.unfr, V.unfrL], by simp [upd], 0, by simp [upd], by omega, rfl⟩
  intro s hs
  obtain ⟨e0, e1, e7, k, e8, hk, hfi⟩ := hs
  rcases Nat.lt_or_ge k c.length with hlt | hge
  · obtain ⟨n0, q⟩ : ∃ i, c[k]? = some i := ⟨c[k], List.getElem?_eq_getElem hlt⟩
    have g0 : decide ((k : Int) < c.length) = true := by simp; omega
    have z0 := Int.natCast_nonneg k
    have n2 : IntKind.i64.wrap ((k : Int) + 1) = (k + 1 : Nat) := by rw [w_i64 (by omega) (by omega)]; omega
    have hd : c.drop k = n0 :: c.drop (k + 1) := by
      rw [List.drop_eq_getElem_cons hlt]
      rw [List.getElem?_eq_getElem hlt, Option.some.injEq] at q
      rw [q]
    rw [hd, List.map_cons, idxV, hsp] at hfi
    rw [hnr] at hfi
    simp only at hfi
    split at hfi
    · rename_i hfn
      cases hfi
      simp only [iv] at hfn
      rcases capsOk_cases hcaps with rfl | ⟨cq, rfl⟩
      ·
        simp only [go_sem, seval, eq_self, reduceCtorEq, e0, e1, e7, e8, q, g0, z0, n2, hsp, hmv2, hfn, Int.toNat_natCast, List.getElem?_map, List.length_map, iv]
        repeat' ((first | (refine AG_of ?_ ?_ <;> intro h) | (refine AB_of ?_ ?_ <;> intro h) | (refine A_draw_of [] [] (by kernel_rfl) ?_ <;> have h := mark)) <;> simp only [go_sem, seval, eq_self, reduceCtorEq, e0, e1, e7, e8, q, g0, z0, n2, hsp, hmv2, hfn, Int.toNat_natCast, List.getElem?_map, List.length_map, iv, h])
        all_goals (first | refine fin_ret ?_ | refine fin_normal ?_)
        all_goals simp only [resOf, Tryz.results98, Tryz.ntmps98, go_sem, seval, eq_self, reduceCtorEq]
      ·
        simp only [go_sem, seval, eq_self, reduceCtorEq, e0, e1, e7, e8, q, g0, z0, n2, hsp, hmv2, hfn, Int.toNat_natCast, List.getElem?_map, List.length_map, iv]
        repeat' ((first | (refine AG_of ?_ ?_ <;> intro h) | (refine AB_of ?_ ?_ <;> intro h) | (refine A_draw_of [] [] (by kernel_rfl) ?_ <;> have h := mark)) <;> simp only [go_sem, seval, eq_self, reduceCtorEq, e0, e1, e7, e8, q, g0, z0, n2, hsp, hmv2, hfn, Int.toNat_natCast, List.getElem?_map, List.length_map, iv, h])
        all_goals (first | refine fin_ret ?_ | refine fin_normal ?_)
        all_goals simp only [resOf, Tryz.results98, Tryz.ntmps98, go_sem, seval, eq_self, reduceCtorEq]
    · rename_i hfn
      simp only [iv] at hfn
      rcases capsOk_cases hcaps with rfl | ⟨cq, rfl⟩
      ·
        simp only [go_sem, seval, eq_self, reduceCtorEq, e0, e1, e7, e8, q, g0, z0, n2, hsp, hmv2, hfn, Int.toNat_natCast, List.getElem?_map, List.length_map, iv]
        repeat' ((first | (refine AG_of ?_ ?_ <;> intro h) | (refine AB_of ?_ ?_ <;> intro h) | (refine A_draw_of [] [] (by kernel_rfl) ?_ <;> have h := mark)) <;> simp only [go_sem, seval, eq_self, reduceCtorEq, e0, e1, e7, e8, q, g0, z0, n2, hsp, hmv2, hfn, Int.toNat_natCast, List.getElem?_map, List.length_map, iv, h])
        exact ⟨⟨by simp [upd, e0], by simp [upd, e1], by simp [upd, e7], k + 1, by simp [upd], by omega, by rw [hnr]; exact hfi⟩, by simp [upd, numOf, e8]; omega⟩
      ·
        simp only [go_sem, seval, eq_self, reduceCtorEq, e0, e1, e7, e8, q, g0, z0, n2, hsp, hmv2, hfn, Int.toNat_natCast, List.getElem?_map, List.length_map, iv]
        repeat' ((first | (refine AG_of ?_ ?_ <;> intro h) | (refine AB_of ?_ ?_ <;> intro h) | (refine A_draw_of [] [] (by kernel_rfl) ?_ <;> have h := mark)) <;> simp only [go_sem, seval, eq_self, reduceCtorEq, e0, e1, e7, e8, q, g0, z0, n2, hsp, hmv2, hfn, Int.toNat_natCast, List.getElem?_map, List.length_map, iv, h])
        exact ⟨⟨by simp [upd, e0], by simp [upd, e1], by simp [upd, e7], k + 1, by simp [upd], by omega, by rw [hnr]; exact hfi⟩, by simp [upd, numOf, e8]; omega⟩
    · cases hfi
  · have hkl : k = c.length := by omega
    have g0 : decide ((k : Int) < c.length) = false := by simp; omega
    rw [hnr, hkl, List.drop_length] at hfi
    cases hfi
    simp only [go_sem, seval, eq_self, reduceCtorEq, e0, e1, e7, e8, g0, List.length_map]
    repeat' ((first | (refine AG_of ?_ ?_ <;> intro h) | (refine AB_of ?_ ?_ <;> intro h) | (refine A_draw_of [] [] (by kernel_rfl) ?_ <;> have h := mark)) <;> simp only [go_sem, seval, eq_self, reduceCtorEq, e0, e1, e7, e8, g0, List.length_map, h])
    all_goals (first | refine fin_ret ?_ | refine fin_normal ?_)
    all_goals simp only [resOf, Tryz.results98, Tryz.ntmps98, go_sem, seval, eq_self, reduceCtorEq]
theorem contFI_impl {C : Orc} (hC : ∀ g sp, C g = some sp → Impl Tryz.prog g sp) : Impl Tryz.prog 72 (spContFI C) := by
  have hC2 : ∀ g sp, upd C 98 (some (spIdxFI C)) g = some sp → Impl Tryz.prog g sp := orc_upd hC (idxFI_impl hC)
  have hat : upd C 98 (some (spIdxFI C)) 98 = some (spIdxFI C) := rfl
  refine impl_walk2 mixed hC2 eqT_ok Tryz.func72 rfl Tryz.ntmps72 (by kernel_rfl) ?_
  intro xs r h
  unfold spContFI at h
  simp only at h
  (try split at h) <;> try (cases (show none = some r from h); done)
  rename_i x g caps
  obtain ⟨l, hl, h3⟩ := Option.bind_eq_some_iff.1 h
  obtain ⟨c, h2, h4⟩ := Option.bind_eq_some_iff.1 h3
  have e := mapM_eq (fun _ _ => i64Of_eq) h2
  clear h h3
  subst e
  split at h4
  case isFalse => cases h4
  rename_i hh
  obtain ⟨nr, hnr, rfl⟩ := Option.map_eq_some_iff.1 h4
  refine ⟨_, lst_args hl _, by simp, ?_⟩
  have ht : (spIdxFI C).fn [.lst false 1 (c.map iv), .fn g caps] = some (.s (.int .i64 nr)) := by
    simp [spIdxFI, lOf, mapM_of i64Of_v, hh, hnr]
  rcases capsOk_cases hh.2.1 with rfl | ⟨cq, rfl⟩
  ·
    simp only [go_sem, seval, eq_self, reduceCtorEq, hat, spIdxFI_mv, ht]
    repeat' ((first | (refine AG_of ?_ ?_ <;> intro h) | (refine AB_of ?_ ?_ <;> intro h) | (refine A_draw_of [] [] (by kernel_rfl) ?_ <;> have h := mark)) <;> simp only [go_sem, seval, eq_self, reduceCtorEq, hat, spIdxFI_mv, ht, h])
    all_goals (first | refine fin_ret ?_ | refine fin_normal ?_)
    all_goals simp only [resOf, Tryz.results72, Tryz.ntmps72, go_sem, seval, eq_self, reduceCtorEq]
  ·
    simp only [go_sem, seval, eq_self, reduceCtorEq, hat, spIdxFI_mv, ht]
    repeat' ((first | (refine AG_of ?_ ?_ <;> intro h) | (refine AB_of ?_ ?_ <;> intro h) | (refine A_draw_of [] [] (by kernel_rfl) ?_ <;> have h := mark)) <;> simp only [go_sem, seval, eq_self, reduceCtorEq, hat, spIdxFI_mv, ht, h])
    all_goals (first | refine fin_ret ?_ | refine fin_normal ?_)
    all_goals simp only [resOf, Tryz.results72, Tryz.ntmps72, go_sem, seval, eq_self, reduceCtorEq]
theorem contFI_v {C : Orc} {g : Nat} {caps : List V} {sp : Spec} (hC : C g = some sp) (hmv : sp.mv = []) (hcaps : capsOk caps = true) (b : Int → Bool) (c : List Int) (hl : c.length ≤ 1000000000)
    (hb : ∀ a ∈ c, sp.fn (iv a :: caps) = some (.s (.bool (b a)))) : (spContFI C).fn [.lst false 1 (c.map iv), .fn g caps] = some (.s (.bool (c.any b))) := by
  obtain ⟨n, h1, h2⟩ := idxV_any hC iv b c 0 hb
  simp only [spContFI, lOf, if_true, Option.bind_some, mapM_of i64Of_v, if_pos (And.intro hl (And.intro hcaps (mvOk_mk hC hmv))), h1, Option.map_some, h2]


def spIdxFN (C : Orc) : Spec := ⟨[], fun xs => match xs with
  | [x, .fn g caps] => (lOf 5 x).bind fun l => (l.mapM insOf).bind fun c => if c.length ≤ 1000000000 ∧ capsOk caps = true ∧ mvOk C g = true then (idxV C g caps (c.map Ins.v) 0).map fun n => .s (.int .i64 n) else none
  | _ => none⟩
def spContFN (C : Orc) : Spec := ⟨[], fun xs => match xs with
  | [x, .fn g caps] => (lOf 5 x).bind fun l => (l.mapM insOf).bind fun c => if c.length ≤ 1000000000 ∧ capsOk caps = true ∧ mvOk C g = true then (idxV C g caps (c.map Ins.v) 0).map fun n => .s (.bool (decide (0 ≤ n))) else none
  | _ => none⟩
theorem spIdxFN_mv (C : Orc) : (spIdxFN C).mv = [] := rfl
theorem spContFN_mv (C : Orc) : (spContFN C).mv = [] := rfl
def idxIN (C : Orc) (g : Nat) (caps : List V) (c : List Ins) (s : S) : Prop :=
  s.env 0 = .lst false 5 (c.map Ins.v) ∧ s.env 1 = .fn g caps ∧ s.env 7 = .s (.int .i64 c.length) ∧
  ∃ k : Nat, s.env 8 = .s (.int .i64 k) ∧ k ≤ c.length ∧ idxV C g caps (c.map Ins.v) 0 = idxV C g caps ((c.drop k).map Ins.v) k
set_option maxHeartbeats 2000000 in
theorem idxFN_impl {C : Orc} (hC : ∀ g sp, C g = some sp → Impl Tryz.prog g sp) : Impl Tryz.prog 99 (spIdxFN C) := by
  refine impl_walk2 mixed hC eqT_ok Tryz.func99 rfl Tryz.ntmps99 (by kernel_rfl) ?_
  intro xs r h
  unfold spIdxFN at h
  simp only at h
  (try split at h) <;> try (cases (show none = some r from h); done)
  rename_i x g caps
  obtain ⟨l, hl, h3⟩ := Option.bind_eq_some_iff.1 h
  obtain ⟨c, h2, h4⟩ := Option.bind_eq_some_iff.1 h3
  have e := mapM_eq (fun _ _ => insOf_eq) h2
  clear h h3
  subst e
  split at h4
  case isFalse => cases h4
  rename_i hh
  obtain ⟨hlen, hcaps, hmv⟩ := hh
  obtain ⟨nr, hnr, rfl⟩ := Option.map_eq_some_iff.1 h4
  obtain ⟨sp, hsp, hmv2⟩ := mvOk_of hmv
  refine ⟨_, lst_args hl _, by simp, ?_⟩
  simp only [go_sem, seval, eq_self, reduceCtorEq, List.length_map]
  repeat' ((first | (refine AG_of ?_ ?_ <;> intro h) | (refine AB_of ?_ ?_ <;> intro h) | (refine A_draw_of [] [] (by kernel_rfl) ?_ <;> have h := mark)) <;> simp only [go_sem, seval, eq_self, reduceCtorEq, List.length_map, h])
  refine A_loop (idxIN C g caps c) (fun s => c.length - (numOf (s.env 8)).toNat) ?_ ?_
  · refine ⟨by simp [upd, init, V.unfr], by rcases capsOk_cases hcaps with rfl | ⟨q, rfl⟩ <;> simp [upd, init, V.unfr, V.unfrL], by simp [upd], 0, by simp [upd], by omega, rfl⟩
  intro s hs
  obtain ⟨e0, e1, e7, k, e8, hk, hfi⟩ := hs
  rcases Nat.lt_or_ge k c.length with hlt | hge
  · obtain ⟨⟨op, d, a, b, imm⟩, q⟩ : ∃ i, c[k]? = some i := ⟨c[k], List.getElem?_eq_getElem hlt⟩
    have g0 : decide ((k : Int) < c.length) = true := by simp; omega
    have z0 := Int.natCast_nonneg k
    have n2 : IntKind.i64.wrap ((k : Int) + 1) = (k + 1 : Nat) := by rw [w_i64 (by omega) (by omega)]; omega
    have hd : c.drop k = ⟨op, d, a, b, imm⟩ :: c.drop (k + 1) := by
      rw [List.drop_eq_getElem_cons hlt]
      rw [List.getElem?_eq_getElem hlt, Option.some.injEq] at q
      rw [q]
    rw [hd, List.map_cons, idxV, hsp] at hfi
    rw [hnr] at hfi
    simp only at hfi
    split at hfi
    · rename_i hfn
      cases hfi
      simp only [Ins.v] at hfn
      rcases capsOk_cases hcaps with rfl | ⟨cq, rfl⟩
      ·
        simp only [go_sem, seval, eq_self, reduceCtorEq, e0, e1, e7, e8, q, g0, z0, n2, hsp, hmv2, hfn, Int.toNat_natCast, List.getElem?_map, List.length_map, Ins.v]
        repeat' ((first | (refine AG_of ?_ ?_ <;> intro h) | (refine AB_of ?_ ?_ <;> intro h) | (refine A_draw_of [] [] (by kernel_rfl) ?_ <;> have h := mark)) <;> simp only [go_sem, seval, eq_self, reduceCtorEq, e0, e1, e7, e8, q, g0, z0, n2, hsp, hmv2, hfn, Int.toNat_natCast, List.getElem?_map, List.length_map, Ins.v, h])
        all_goals (first | refine fin_ret ?_ | refine fin_normal ?_)
        all_goals simp only [resOf, Tryz.results99, Tryz.ntmps99, go_sem, seval, eq_self, reduceCtorEq]
      ·
        simp only [go_sem, seval, eq_self, reduceCtorEq, e0, e1, e7, e8, q, g0, z0, n2, hsp, hmv2, hfn, Int.toNat_natCast, List.getElem?_map, List.length_map, Ins.v]
        repeat' ((first | (refine AG_of ?_ ?_ <;> intro h) | (refine AB_of ?_ ?_ <;> intro h) | (refine A_draw_of [] [] (by kernel_rfl) ?_ <;> have h := mark)) <;> simp only [go_sem, seval, eq_self, reduceCtorEq, e0, e1, e7, e8, q, g0, z0, n2, hsp, hmv2, hfn, Int.toNat_natCast, List.getElem?_map, List.length_map, Ins.v, h])
        all_goals (first | refine fin_ret ?_ | refine fin_normal ?_)
        all_goals simp only [resOf, Tryz.results99, Tryz.ntmps99, go_sem, seval, eq_self, reduceCtorEq]
    · rename_i hfn
      simp only [Ins.v] at hfn
      rcases capsOk_cases hcaps with rfl | ⟨cq, rfl⟩
      ·
        simp only [go_sem, seval, eq_self, reduceCtorEq, e0, e1, e7, e8, q, g0, z0, n2, hsp, hmv2, hfn, Int.toNat_natCast, List.getElem?_map, List.length_map, Ins.v]
        repeat' ((first | (refine AG_of ?_ ?_ <;> intro h) | (refine AB_of ?_ ?_ <;> intro h) | (refine A_draw_of [] [] (by kernel_rfl) ?_ <;> have h := mark)) <;> simp only [go_sem, seval, eq_self, reduceCtorEq, e0, e1, e7, e8, q, g0, z0, n2, hsp, hmv2, hfn, Int.toNat_natCast, List.getElem?_map, List.length_map, Ins.v, h])
        exact ⟨⟨by simp [upd, e0], by simp [upd, e1], by simp [upd, e7], k + 1, by simp [upd], by omega, by rw [hnr]; exact hfi⟩, by simp [upd, numOf, e8]; omega⟩
      ·
        simp only [go_sem, seval, eq_self, reduceCtorEq, e0, e1, e7, e8, q, g0, z0, n2, hsp, hmv2, hfn, Int.toNat_natCast, List.getElem?_map, List.length_map, Ins.v]
        repeat' ((first | (refine AG_of ?_ ?_ <;> intro h) | (refine AB_of ?_ ?_ <;> intro h) | (refine A_draw_of [] [] (by kernel_rfl) ?_ <;> have h := mark)) <;> simp only [go_sem, seval, eq_self, reduceCtorEq, e0, e1, e7, e8, q, g0, z0, n2, hsp, hmv2, hfn, Int.toNat_natCast, List.getElem?_map, List.length_map, Ins.v, h])
        exact ⟨⟨by simp [upd, e0], by simp [upd, e1], by simp [upd, e7], k + 1, by simp [upd], by omega, by rw [hnr]; exact hfi⟩, by simp [upd, numOf, e8]; omega⟩
    · cases hfi
  · have hkl : k = c.length := by omega
    have g0 : decide ((k : Int) < c.length) = false := by simp; omega
    rw [hnr, hkl, List.drop_length] at hfi
    cases hfi
    simp only [go_sem, seval, eq_self, reduceCtorEq, e0, e1, e7, e8, g0, List.length_map]
    repeat' ((first | (refine AG_of ?_ ?_ <;> intro h) | (refine AB_of ?_ ?_ <;> intro h) | (refine A_draw_of [] [] (by kernel_rfl) ?_ <;> have h := mark)) <;> simp only [go_sem, seval, eq_self, reduceCtorEq, e0, e1, e7, e8, g0, List.length_map, h])
    all_goals (first | refine fin_ret ?_ | refine fin_normal ?_)
    all_goals simp only [resOf, Tryz.results99, Tryz.ntmps99, go_sem, seval, eq_self, reduceCtorEq]
theorem contFN_impl {C : Orc} (hC : ∀ g sp, C g = some sp → Impl Tryz.prog g sp) : Impl Tryz.prog 74 (spContFN C) := by
  have hC2 : ∀ g sp, upd C 99 (some (spIdxFN C)) g = some sp → Impl Tryz.prog g sp := orc_upd hC (idxFN_impl hC)
  have hat : upd C 99 (some (spIdxFN C)) 99 = some (spIdxFN C) := rfl
  refine impl_walk2 mixed hC2 eqT_ok Tryz.func74 rfl Tryz.ntmps74 (by kernel_rfl) ?_
  intro xs r h
  unfold spContFN at h
  simp only at h
  (try split at h) <;> try (cases (show none = some r from h); done)
  rename_i x g caps
  obtain ⟨l, hl, h3⟩ := Option.bind_eq_some_iff.1 h
  obtain ⟨c, h2, h4⟩ := Option.bind_eq_some_iff.1 h3
  have e := mapM_eq (fun _ _ => insOf_eq) h2
  clear h h3
  subst e
  split at h4
  case isFalse => cases h4
  rename_i hh
  obtain ⟨nr, hnr, rfl⟩ := Option.map_eq_some_iff.1 h4
  refine ⟨_, lst_args hl _, by simp, ?_⟩
  have ht : (spIdxFN C).fn [.lst false 5 (c.map Ins.v), .fn g caps] = some (.s (.int .i64 nr)) := by
    simp [spIdxFN, lOf, mapM_of insOf_v, hh, hnr]
  rcases capsOk_cases hh.2.1 with rfl | ⟨cq, rfl⟩
  ·
    simp only [go_sem, seval, eq_self, reduceCtorEq, hat, spIdxFN_mv, ht]
    repeat' ((first | (refine AG_of ?_ ?_ <;> intro h) | (refine AB_of ?_ ?_ <;> intro h) | (refine A_draw_of [] [] (by kernel_rfl) ?_ <;> have h := mark)) <;> simp only [go_sem, seval, eq_self, reduceCtorEq, hat, spIdxFN_mv, ht, h])
    all_goals (first | refine fin_ret ?_ | refine fin_normal ?_)
    all_goals simp only [resOf, Tryz.results74, Tryz.ntmps74, go_sem, seval, eq_self, reduceCtorEq]
  ·
    simp only [go_sem, seval, eq_self, reduceCtorEq, hat, spIdxFN_mv, ht]
    repeat' ((first | (refine AG_of ?_ ?_ <;> intro h) | (refine AB_of ?_ ?_ <;> intro h) | (refine A_draw_of [] [] (by kernel_rfl) ?_ <;> have h := mark)) <;> simp only [go_sem, seval, eq_self, reduceCtorEq, hat, spIdxFN_mv, ht, h])
    all_goals (first | refine fin_ret ?_ | refine fin_normal ?_)
    all_goals simp only [resOf, Tryz.results74, Tryz.ntmps74, go_sem, seval, eq_self, reduceCtorEq]
theorem contFN_v {C : Orc} {g : Nat} {caps : List V} {sp : Spec} (hC : C g = some sp) (hmv : sp.mv = []) (hcaps : capsOk caps = true) (b : Ins → Bool) (c : List Ins) (hl : c.length ≤ 1000000000)
    (hb : ∀ a ∈ c, sp.fn (Ins.v a :: caps) = some (.s (.bool (b a)))) : (spContFN C).fn [.lst false 5 (c.map Ins.v), .fn g caps] = some (.s (.bool (c.any b))) := by
  obtain ⟨n, h1, h2⟩ := idxV_any hC Ins.v b c 0 hb
  simp only [spContFN, lOf, if_true, Option.bind_some, mapM_of insOf_v, if_pos (And.intro hl (And.intro hcaps (mvOk_mk hC hmv))), h1, Option.map_some, h2]

def cImg5 : Orc := upd cImg4 95 (some spWrong)
theorem cImg5_ok : ∀ g sp, cImg5 g = some sp → Impl Tryz.prog g sp := orc_upd cImg4_ok wrong_impl
theorem cImg5_at : cImg5 95 = some spWrong := rfl
theorem spWrong_mv : spWrong.mv = [] := rfl
def cImg7 : Orc := upd (upd (upd cImg5 74 (some (spContFN cImg5))) 97 (some spTargets)) 96 (some spSizes)
theorem cImg7_ok : ∀ g sp, cImg7 g = some sp → Impl Tryz.prog g sp := orc_upd (orc_upd (orc_upd cImg5_ok (contFN_impl cImg5_ok)) targets_impl) sizes_impl
theorem cImg7_at : cImg7 74 = some (spContFN cImg5) ∧ cImg7 97 = some spTargets ∧ cImg7 96 = some spSizes := ⟨rfl, rfl, rfl⟩

theorem spTargets_mv : spTargets.mv = [] := rfl
theorem spSizes_mv : spSizes.mv = [] := rfl

set_option maxHeartbeats 1000000 in
theorem iright_impl : Impl Tryz.prog 71 spRightP := by
  refine impl_walk2 mixed cImg7_ok eqT_ok Tryz.func71 rfl Tryz.ntmps71 (by kernel_rfl) ?_
  intro xs r h
  unfold spRightP at h
  simp only at h
  (try split at h) <;> try (cases (show none = some r from h); done)
  rename_i x
  obtain ⟨p, hp, h3⟩ := Option.bind_eq_some_iff.1 h
  clear h
  cases h3
  refine ⟨_, prg_args hp _, by simp, ?_⟩
  have hs : spSizes.fn [.s (.int .i64 p.code.length), .s (.int .i64 p.size), .s (.int .i64 p.data.length)] = some (.s (.bool (headB p))) := rfl
  by_cases H : headB p = true
  · have H' := H
    simp only [headB, Bool.and_eq_true, decide_eq_true_eq] at H'
    have hc : (spContFN cImg5).fn [.lst false 5 (p.code.map Ins.v), .fn 95 []] = some (.s (.bool (!(p.code.all rightB)))) := by
      have := contFN_v cImg5_at spWrong_mv (rfl : capsOk [] = true) (fun i => !rightB i) p.code (by omega) (fun i _ => rfl)
      rw [this, List.not_all_eq_any_not]
    have ht : spTargets.fn [.agg [.lst false 5 (p.code.map Ins.v), .s (.int .i64 p.size), .lst false 1 (p.data.map u8v)]] = some (.s (.int .i64 (targs p))) := by
      have := prgOf_v p
      unfold Prg.v at this
      simp [spTargets, this]
      omega
    simp only [go_sem, seval, eq_self, reduceCtorEq, Prg.v, List.length_map, hs, H, hc, ht, cImg7_at, spContFN_mv, spTargets_mv, spSizes_mv]
    repeat' ((first | (refine AG_of ?_ ?_ <;> intro h) | (refine AB_of ?_ ?_ <;> intro h) | (refine A_draw_of [] [] (by kernel_rfl) ?_ <;> have h := mark)) <;> simp only [go_sem, seval, eq_self, reduceCtorEq, Prg.v, List.length_map, hs, H, hc, ht, cImg7_at, spContFN_mv, spTargets_mv, spSizes_mv, h])
    all_goals (first | refine fin_ret ?_ | refine fin_normal ?_)
    all_goals simp only [resOf, Tryz.results71, Tryz.ntmps71, go_sem, seval, eq_self, reduceCtorEq]
    all_goals
      unfold rightP
      try unfold targs
      rw [H]
      cases ha : p.code.all rightB <;> cases hb : targsB p <;> simp_all
  · have H2 : headB p = false := by simpa using H
    have hr : rightP p = false := by unfold rightP; simp [H2]
    rw [hr]
    simp only [go_sem, seval, eq_self, reduceCtorEq, Prg.v, List.length_map, hs, H2, cImg7_at, spContFN_mv, spTargets_mv, spSizes_mv]
    repeat' ((first | (refine AG_of ?_ ?_ <;> intro h) | (refine AB_of ?_ ?_ <;> intro h) | (refine A_draw_of [] [] (by kernel_rfl) ?_ <;> have h := mark)) <;> simp only [go_sem, seval, eq_self, reduceCtorEq, Prg.v, List.length_map, hs, H2, cImg7_at, spContFN_mv, spTargets_mv, spSizes_mv, h])
    all_goals (first | refine fin_ret ?_ | refine fin_normal ?_)
    all_goals simp only [resOf, Tryz.results71, Tryz.ntmps71, go_sem, seval, eq_self, reduceCtorEq]

def cImg8 : Orc := upd (upd cImg7 71 (some spRightP)) 54 (some spRightP)
theorem cImg8_ok : ∀ g sp, cImg8 g = some sp → Impl Tryz.prog g sp := orc_upd (orc_upd cImg7_ok iright_impl) rrightp_impl
theorem spRightP_mv : spRightP.mv = [] := rfl
def spFew : Spec := ⟨[], fun xs => match xs with
  | [x] => (prgOf x).bind fun p => some (.s (.bool (decide ((p.code.length : Int) ≤ 200) && decide ((p.data.length : Int) ≤ 500))))
  | _ => none⟩
theorem few_impl : Impl Tryz.prog 8 spFew := by
  refine impl_walk2 mixed cImg8_ok eqT_ok Tryz.func8 rfl Tryz.ntmps8 (by kernel_rfl) ?_
  intro xs r h
  unfold spFew at h
  simp only at h
  (try split at h) <;> try (cases (show none = some r from h); done)
  rename_i x
  obtain ⟨p, hp, h3⟩ := Option.bind_eq_some_iff.1 h
  clear h
  cases h3
  refine ⟨_, prg_args hp _, by simp, ?_⟩
  simp only [go_sem, seval, eq_self, reduceCtorEq, Prg.v, List.length_map]
  repeat' ((first | (refine AG_of ?_ ?_ <;> intro h) | (refine AB_of ?_ ?_ <;> intro h) | (refine A_draw_of [] [] (by kernel_rfl) ?_ <;> have h := mark)) <;> simp only [go_sem, seval, eq_self, reduceCtorEq, Prg.v, List.length_map, h])
  all_goals (first | refine fin_ret ?_ | refine fin_normal ?_)
  all_goals simp only [resOf, Tryz.results8, Tryz.ntmps8, go_sem, seval, eq_self, reduceCtorEq]
  all_goals simp_all
theorem spRightP_v (p : Prg) : spRightP.fn [.agg [.lst false 5 (p.code.map Ins.v), .s (.int .i64 p.size), .lst false 1 (p.data.map u8v)]] = some (.s (.bool (rightP p))) := by
  have := prgOf_v p
  unfold Prg.v at this
  simp [spRightP, this]
def fewB (p : Prg) : Bool := decide ((p.code.length : Int) ≤ 200) && decide ((p.data.length : Int) ≤ 500)
theorem few_v (p : Prg) : spFew.fn [p.v] = some (.s (.bool (fewB p))) := by
  simp only [spFew, prgOf_v, Option.bind_some]
  rfl
theorem rightP_v (p : Prg) : spRightP.fn [p.v] = some (.s (.bool (rightP p))) := spRightP_v p
theorem spFew_mv : spFew.mv = [] := rfl

end Go.Proofs.YtkfmecmmbnehjaaGreat
