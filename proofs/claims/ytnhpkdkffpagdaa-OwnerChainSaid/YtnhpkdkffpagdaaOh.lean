/-
The laws of chapter 11: OwnerLoads, OwnerChain: the plain laws. No condition.
-/
import Derived.Test.YtnhpkdkffpagdaaOg
namespace Go.Proofs.Ytnhpkdkffpagdaa
set_option linter.unusedSimpArgs false
set_option linter.unusedVariables false

/-- a load, a sum of what is loaded, a store -/
def loadsP (base d b op : Int) : Prg := ⟨[⟨op, d, base, 0, 0⟩, ⟨1, b, d, b, 0⟩, ⟨31, 0, base, b, 0⟩, ⟨41, 0, 0, 0, 0⟩], 0, []⟩
def onL (base d b j : Int) : Bool := j == base || (b == base && (j == d || j == b))
theorem loads_right {base d b op : Int} (h1 : 1 ≤ base) (h2 : base ≤ 15) (h3 : 1 ≤ d) (h4 : d ≤ 15) (h5 : 1 ≤ b) (h6 : b ≤ 15) (h7 : 26 ≤ op) (h8 : op ≤ 30) : rightP (loadsP base d b op) = true := by
  have : op = 26 ∨ op = 27 ∨ op = 28 ∨ op = 29 ∨ op = 30 := by omega
  have e1 : decide (0 ≤ base) = true := by simp; omega
  have e2 : decide (base ≤ 15) = true := by simp; omega
  have e3 : decide (0 ≤ d) = true := by simp; omega
  have e4 : decide (d ≤ 15) = true := by simp; omega
  have e5 : decide (0 ≤ b) = true := by simp; omega
  have e6 : decide (b ≤ 15) = true := by simp; omega
  rcases this with rfl | rfl | rfl | rfl | rfl <;>
    simp [rightP, headB, loadsP, rightB, form, withinB, hasDB, hasAB, hasBB, hasImmB, loB, hiB, shiftB, targsB, badAt, badI, range_4, e1, e2, e3, e4, e5, e6]
theorem form_load {op : Int} (h7 : 26 ≤ op) (h8 : op ≤ 30) : form op = 4 := by
  have : op = 26 ∨ op = 27 ∨ op = 28 ∨ op = 29 ∨ op = 30 := by omega
  rcases this with rfl | rfl | rfl | rfl | rfl <;> rfl
theorem loads_pass {base d b op : Int} (h1 : 1 ≤ base) (h2 : base ≤ 15) (h3 : 1 ≤ d) (h4 : d ≤ 15) (h5 : 1 ≤ b) (h6 : b ≤ 15) (h7 : 26 ≤ op) (h8 : op ≤ 30) {o : List Int} (ho : o.length = 16) (j : Nat) :
    oAt (passO (loadsP base d b op).code o) j = if (j : Int) = base then 1 else if (b = base ∨ oAt o b = 1) ∧ ((j : Int) = d ∨ (j : Int) = b) then 1 else oAt o j := by
  obtain ⟨kb, rfl⟩ : ∃ k : Nat, base = k := ⟨base.toNat, by omega⟩
  obtain ⟨kd, rfl⟩ : ∃ k : Nat, d = k := ⟨d.toNat, by omega⟩
  obtain ⟨kc, rfl⟩ : ∃ k : Nat, b = k := ⟨b.toNat, by omega⟩
  have hr := loads_right h1 h2 h3 h4 h5 h6 h7 h8
  have hall := (rightP_all hr).1
  simp only [loadsP, List.all_cons, List.all_nil, Bool.and_eq_true] at hall
  have g1 : giveO ⟨op, kd, kb, 0, 0⟩ o = o.set kb 1 := by
    have e : reachB ⟨op, kd, kb, 0, 0⟩ = true := by simp [reachB, form_load h7 h8]
    have e2 : ((kb : Int) == 0) = false := by simp; omega
    simp [giveO, e, e2]
  have g2 : ∀ o : List Int, giveO ⟨1, kc, kd, kc, 0⟩ o = if oAt o kc = 1 then (o.set kd 1).set kc 1 else o := fun o => by
    have e : reachB ⟨1, kc, kd, kc, 0⟩ = false := rfl
    have e2 : reckB ⟨1, kc, kd, kc, 0⟩ = true := rfl
    have e3 : readsL ⟨1, kc, kd, kc, 0⟩ = [(kd : Int), kc] := by
      have f1 : ((kd : Int) == 0) = false := by simp; omega
      have f2 : ((kc : Int) == 0) = false := by simp; omega
      unfold readsL
      rw [if_pos hall.2.1, f1, f2]; rfl
    by_cases h : oAt o kc = 1
    · simp [giveO, e, e2, e3, h]
    · simp [giveO, e, e2, h]
  have g3 : ∀ o : List Int, giveO ⟨31, 0, kb, kc, 0⟩ o = o.set kb 1 := fun o => by
    have e : reachB ⟨31, 0, kb, kc, 0⟩ = true := rfl
    have e2 : ((kb : Int) == 0) = false := by simp; omega
    simp [giveO, e, e2]
  have g4 : ∀ o : List Int, giveO ⟨41, 0, 0, 0, 0⟩ o = o := fun o => rfl
  have hp : passO (loadsP kb kd kc op).code o = (if oAt (o.set kb 1) kc = 1 then ((o.set kb 1).set kd 1).set kc 1 else o.set kb 1).set kb 1 := by
    simp only [passO, loadsP, List.foldl_cons, List.foldl_nil]
    rw [g1, g2, g3, g4]
  rw [hp, oAt_set (by split <;> simp <;> omega)]
  have hk : oAt (o.set kb 1) kc = if kc = kb then 1 else oAt o kc := oAt_set (by omega) 1 kc
  by_cases e1 : j = kb
  · rw [if_pos e1, if_pos (by omega)]
  · rw [if_neg e1, if_neg (show ¬ ((j : Int) = (kb : Int)) by omega), hk]
    by_cases e2 : kc = kb
    · rw [if_pos e2, if_pos rfl, oAt_set (by simp; omega), oAt_set (by simp; omega), oAt_set (by omega)]
      by_cases e3 : j = kc
      · rw [if_pos e3, if_pos ⟨.inl (by omega), .inr (by omega)⟩]
      · rw [if_neg e3]
        by_cases e4 : j = kd
        · rw [if_pos e4, if_pos ⟨.inl (by omega), .inl (by omega)⟩]
        · rw [if_neg e4, if_neg e1, if_neg (by omega)]
    · rw [if_neg e2]
      by_cases e5 : oAt o kc = 1
      · rw [if_pos e5, oAt_set (by simp; omega), oAt_set (by simp; omega), oAt_set (by omega)]
        by_cases e3 : j = kc
        · rw [if_pos e3, if_pos ⟨.inr e5, .inr (by omega)⟩]
        · rw [if_neg e3]
          by_cases e4 : j = kd
          · rw [if_pos e4, if_pos ⟨.inr e5, .inl (by omega)⟩]
          · rw [if_neg e4, if_neg e1, if_neg (by omega)]
      · rw [if_neg e5, oAt_set (by omega), if_neg e1, if_neg (by rintro ⟨h | h, _⟩; exact e2 (by omega); exact e5 h)]
theorem start_at {j : Nat} (h : 1 ≤ j) (h2 : j < 16) : oAt startO j = 2 := by
  rcases start_ok.side j h h2 with e | e
  · exfalso
    have : j = 1 ∨ j = 2 ∨ j = 3 ∨ j = 4 ∨ j = 5 ∨ j = 6 ∨ j = 7 ∨ j = 8 ∨ j = 9 ∨ j = 10 ∨ j = 11 ∨ j = 12 ∨ j = 13 ∨ j = 14 ∨ j = 15 := by omega
    rcases this with rfl | rfl | rfl | rfl | rfl | rfl | rfl | rfl | rfl | rfl | rfl | rfl | rfl | rfl | rfl <;> (revert e; decide)
  · exact e
theorem loads_of {base d b op : Int} (h1 : 1 ≤ base) (h2 : base ≤ 15) (h3 : 1 ≤ d) (h4 : d ≤ 15) (h5 : 1 ≤ b) (h6 : b ≤ 15) (h7 : 26 ≤ op) (h8 : op ≤ 30) :
    (∀ j : Nat, 1 ≤ j → j < 16 → (oAt (ofO (loadsP base d b op)) j == 1) = onL base d b j) ∧ oAt (ofO (loadsP base d b op)) 0 = 0 := by
  have hr := loads_right h1 h2 h3 h4 h5 h6 h7 h8
  have hall := (rightP_all hr).1
  have e17 : ofO (loadsP base d b op) = iterO (loadsP base d b op).code 17 := by unfold ofO; rw [if_pos hr]
  have hP := fun (o : List Int) (ho : o.length = 16) => loads_pass (o := o) h1 h2 h3 h4 h5 h6 h7 h8 ho
  have hs2 : oAt startO b = 2 := by
    have := start_at (j := b.toNat) (by omega) (by omega)
    rwa [oAt_nat _ (by omega)] at this
  have p1 : ∀ j : Nat, oAt (iterO (loadsP base d b op).code 1) j = if (j : Int) = base then 1 else if b = base ∧ ((j : Int) = d ∨ (j : Int) = b) then 1 else oAt startO j := fun j => by
    have := hP startO rfl j
    rw [hs2] at this
    rw [show iterO (loadsP base d b op).code 1 = passO (loadsP base d b op).code startO from rfl, this]
    by_cases hj : (j : Int) = base
    · rw [if_pos hj, if_pos hj]
    · rw [if_neg hj, if_neg hj]
      by_cases hb : b = base
      · by_cases hq : (j : Int) = d ∨ (j : Int) = b
        · rw [if_pos ⟨.inl hb, hq⟩, if_pos ⟨hb, hq⟩]
        · rw [if_neg (fun k => hq k.2), if_neg (fun k => hq k.2)]
      · rw [if_neg (by rintro ⟨h | h, _⟩; exact hb h; omega), if_neg (fun k => hb k.1)]
  have hl1 := iter_len (loadsP base d b op).code 1
  have pb : oAt (iterO (loadsP base d b op).code 1) b = if b = base then 1 else 2 := by
    have := p1 b.toNat
    rw [oAt_nat _ (by omega), oAt_nat _ (by omega), hs2, show ((b.toNat : Nat) : Int) = b by omega] at this
    rw [this]
    by_cases hb : b = base
    · rw [if_pos hb, if_pos hb]
    · rw [if_neg hb, if_neg hb, if_neg (fun k => hb k.1)]
  have fix : passO (loadsP base d b op).code (iterO (loadsP base d b op).code 1) = iterO (loadsP base d b op).code 1 := by
    refine oAt_ext (by rw [pass_len]) fun j => ?_
    rw [hP _ hl1 j, pb, p1 j]
    by_cases hj : (j : Int) = base
    · rw [if_pos hj, if_pos hj]
    · rw [if_neg hj, if_neg hj]
      by_cases hb : b = base
      · by_cases hq : (j : Int) = d ∨ (j : Int) = b
        · rw [if_pos ⟨.inl hb, hq⟩, if_pos ⟨hb, hq⟩]
        · rw [if_neg (fun k => hq k.2), if_neg (fun k => hq k.2)]
      · rw [if_neg hb, if_neg (by rintro ⟨h | h, _⟩; exact hb h; omega), if_neg (fun k => hb k.1)]
  have hf := iter_fix hall fix
  rw [e17, ← hf]
  refine ⟨fun j hj hj2 => ?_, (iter_ok hall 1).zero⟩
  rw [p1 j, start_at hj hj2]
  unfold onL
  by_cases q1 : (j : Int) = base
  · simp [q1]
  · by_cases q2 : b = base ∧ ((j : Int) = d ∨ (j : Int) = b)
    · rw [if_neg q1, if_pos q2]
      obtain ⟨q3, q4⟩ := q2
      rcases q4 with q4 | q4 <;> simp [q3, q4]
    · rw [if_neg q1, if_neg q2]
      simp only [not_and, not_or] at q2
      by_cases q3 : b = base
      · have := q2 q3
        simp [q1, q3, this.1]
        try omega
      · simp [q1, q3]

def spLoads : Spec := ⟨[], fun xs => match xs with
  | [.s (.int .i64 _), .s (.int .i64 _), .s (.int .i64 _), .s (.int .i64 _)] => some (.s (.bool true))
  | _ => none⟩
def loadsI (base d b : Int) (o : List Int) (s : S) : Prop := s.env 0 = .s (.int .i64 base) ∧ s.env 1 = .s (.int .i64 d) ∧ s.env 2 = .s (.int .i64 b) ∧ s.env 11 = .ptr 11 1 0 ∧ s.st 11 = ⟨1, .box (o.map iv)⟩ ∧ ∃ k : Nat, s.env 12 = .s (.int .i64 k) ∧ 1 ≤ k ∧ k ≤ 16
set_option maxHeartbeats 4000000 in
set_option maxRecDepth 8000 in
theorem loads_impl : Impl Try.prog 7 spLoads := by
  refine impl_walk mixed cLaw3_ok eqT_ok Try.func7 rfl Try.ntmps7 (by kernel_rfl) ?_
  intro xs r h
  unfold spLoads at h
  simp only at h
  (try split at h) <;> try (cases (show none = some r from h); done)
  rename_i base d b op
  cases h
  refine ⟨by simp, ?_⟩
  by_cases c0 : base < 1
  · have g0 : decide (base < 1) = true := by simp [c0]
    simp only [go_sem, seval, eq_self, reduceCtorEq, cLaw3_at, spTrue_mv, spTrue_fn, g0]
    repeat' ((first | (refine AG_of ?_ ?_ <;> intro h) | (refine AB_of ?_ ?_ <;> intro h) | (refine A_draw_of [] [] (by kernel_rfl) ?_ <;> have h := mark)) <;> simp only [go_sem, seval, eq_self, reduceCtorEq, cLaw3_at, spTrue_mv, spTrue_fn, g0, h])
    all_goals (first | refine fin_ret ?_ | refine fin_normal ?_)
    all_goals simp only [resOf, Try.results7, Try.ntmps7, go_sem, seval, eq_self, reduceCtorEq]
  have g0 : decide (base < 1) = false := by simp; omega
  by_cases c1 : 15 < base
  · have g1 : decide (15 < base) = true := by simp [c1]
    simp only [go_sem, seval, eq_self, reduceCtorEq, cLaw3_at, spTrue_mv, spTrue_fn, g0, g1]
    repeat' ((first | (refine AG_of ?_ ?_ <;> intro h) | (refine AB_of ?_ ?_ <;> intro h) | (refine A_draw_of [] [] (by kernel_rfl) ?_ <;> have h := mark)) <;> simp only [go_sem, seval, eq_self, reduceCtorEq, cLaw3_at, spTrue_mv, spTrue_fn, g0, g1, h])
    all_goals (first | refine fin_ret ?_ | refine fin_normal ?_)
    all_goals simp only [resOf, Try.results7, Try.ntmps7, go_sem, seval, eq_self, reduceCtorEq]
  have g1 : decide (15 < base) = false := by simp; omega
  by_cases c2 : d < 1
  · have g2 : decide (d < 1) = true := by simp [c2]
    simp only [go_sem, seval, eq_self, reduceCtorEq, cLaw3_at, spTrue_mv, spTrue_fn, g0, g1, g2]
    repeat' ((first | (refine AG_of ?_ ?_ <;> intro h) | (refine AB_of ?_ ?_ <;> intro h) | (refine A_draw_of [] [] (by kernel_rfl) ?_ <;> have h := mark)) <;> simp only [go_sem, seval, eq_self, reduceCtorEq, cLaw3_at, spTrue_mv, spTrue_fn, g0, g1, g2, h])
    all_goals (first | refine fin_ret ?_ | refine fin_normal ?_)
    all_goals simp only [resOf, Try.results7, Try.ntmps7, go_sem, seval, eq_self, reduceCtorEq]
  have g2 : decide (d < 1) = false := by simp; omega
  by_cases c3 : 15 < d
  · have g3 : decide (15 < d) = true := by simp [c3]
    simp only [go_sem, seval, eq_self, reduceCtorEq, cLaw3_at, spTrue_mv, spTrue_fn, g0, g1, g2, g3]
    repeat' ((first | (refine AG_of ?_ ?_ <;> intro h) | (refine AB_of ?_ ?_ <;> intro h) | (refine A_draw_of [] [] (by kernel_rfl) ?_ <;> have h := mark)) <;> simp only [go_sem, seval, eq_self, reduceCtorEq, cLaw3_at, spTrue_mv, spTrue_fn, g0, g1, g2, g3, h])
    all_goals (first | refine fin_ret ?_ | refine fin_normal ?_)
    all_goals simp only [resOf, Try.results7, Try.ntmps7, go_sem, seval, eq_self, reduceCtorEq]
  have g3 : decide (15 < d) = false := by simp; omega
  by_cases c4 : b < 1
  · have g4 : decide (b < 1) = true := by simp [c4]
    simp only [go_sem, seval, eq_self, reduceCtorEq, cLaw3_at, spTrue_mv, spTrue_fn, g0, g1, g2, g3, g4]
    repeat' ((first | (refine AG_of ?_ ?_ <;> intro h) | (refine AB_of ?_ ?_ <;> intro h) | (refine A_draw_of [] [] (by kernel_rfl) ?_ <;> have h := mark)) <;> simp only [go_sem, seval, eq_self, reduceCtorEq, cLaw3_at, spTrue_mv, spTrue_fn, g0, g1, g2, g3, g4, h])
    all_goals (first | refine fin_ret ?_ | refine fin_normal ?_)
    all_goals simp only [resOf, Try.results7, Try.ntmps7, go_sem, seval, eq_self, reduceCtorEq]
  have g4 : decide (b < 1) = false := by simp; omega
  by_cases c5 : 15 < b
  · have g5 : decide (15 < b) = true := by simp [c5]
    simp only [go_sem, seval, eq_self, reduceCtorEq, cLaw3_at, spTrue_mv, spTrue_fn, g0, g1, g2, g3, g4, g5]
    repeat' ((first | (refine AG_of ?_ ?_ <;> intro h) | (refine AB_of ?_ ?_ <;> intro h) | (refine A_draw_of [] [] (by kernel_rfl) ?_ <;> have h := mark)) <;> simp only [go_sem, seval, eq_self, reduceCtorEq, cLaw3_at, spTrue_mv, spTrue_fn, g0, g1, g2, g3, g4, g5, h])
    all_goals (first | refine fin_ret ?_ | refine fin_normal ?_)
    all_goals simp only [resOf, Try.results7, Try.ntmps7, go_sem, seval, eq_self, reduceCtorEq]
  have g5 : decide (15 < b) = false := by simp; omega
  by_cases c6 : op < 26
  · have g6 : decide (op < 26) = true := by simp [c6]
    simp only [go_sem, seval, eq_self, reduceCtorEq, cLaw3_at, spTrue_mv, spTrue_fn, g0, g1, g2, g3, g4, g5, g6]
    repeat' ((first | (refine AG_of ?_ ?_ <;> intro h) | (refine AB_of ?_ ?_ <;> intro h) | (refine A_draw_of [] [] (by kernel_rfl) ?_ <;> have h := mark)) <;> simp only [go_sem, seval, eq_self, reduceCtorEq, cLaw3_at, spTrue_mv, spTrue_fn, g0, g1, g2, g3, g4, g5, g6, h])
    all_goals (first | refine fin_ret ?_ | refine fin_normal ?_)
    all_goals simp only [resOf, Try.results7, Try.ntmps7, go_sem, seval, eq_self, reduceCtorEq]
  have g6 : decide (op < 26) = false := by simp; omega
  by_cases c7 : 30 < op
  · have g7 : decide (30 < op) = true := by simp [c7]
    simp only [go_sem, seval, eq_self, reduceCtorEq, cLaw3_at, spTrue_mv, spTrue_fn, g0, g1, g2, g3, g4, g5, g6, g7]
    repeat' ((first | (refine AG_of ?_ ?_ <;> intro h) | (refine AB_of ?_ ?_ <;> intro h) | (refine A_draw_of [] [] (by kernel_rfl) ?_ <;> have h := mark)) <;> simp only [go_sem, seval, eq_self, reduceCtorEq, cLaw3_at, spTrue_mv, spTrue_fn, g0, g1, g2, g3, g4, g5, g6, g7, h])
    all_goals (first | refine fin_ret ?_ | refine fin_normal ?_)
    all_goals simp only [resOf, Try.results7, Try.ntmps7, go_sem, seval, eq_self, reduceCtorEq]
  have g7 : decide (30 < op) = false := by simp; omega
  obtain ⟨L1, L2⟩ := loads_of (base := base) (d := d) (b := b) (op := op) (by omega) (by omega) (by omega) (by omega) (by omega) (by omega) (by omega) (by omega)
  have hol := of_len (loadsP base d b op)
  have hO : spOf.fn [.agg [.lst false 5 [.agg [.s (.int .i64 op), .s (.int .i64 d), .s (.int .i64 base), .s (.int .i64 0), .s (.int .i64 0)], .agg [.s (.int .i64 1), .s (.int .i64 b), .s (.int .i64 d), .s (.int .i64 b), .s (.int .i64 0)], .agg [.s (.int .i64 31), .s (.int .i64 0), .s (.int .i64 base), .s (.int .i64 b), .s (.int .i64 0)], .agg [.s (.int .i64 41), .s (.int .i64 0), .s (.int .i64 0), .s (.int .i64 0), .s (.int .i64 0)]], .s (.int .i64 0), .s (.slice none 0 0)]] = some (.agg ((ofO (loadsP base d b op)).map iv)) := by
    have : prgOf (.agg [.lst false 5 [.agg [.s (.int .i64 op), .s (.int .i64 d), .s (.int .i64 base), .s (.int .i64 0), .s (.int .i64 0)], .agg [.s (.int .i64 1), .s (.int .i64 b), .s (.int .i64 d), .s (.int .i64 b), .s (.int .i64 0)], .agg [.s (.int .i64 31), .s (.int .i64 0), .s (.int .i64 base), .s (.int .i64 b), .s (.int .i64 0)], .agg [.s (.int .i64 41), .s (.int .i64 0), .s (.int .i64 0), .s (.int .i64 0), .s (.int .i64 0)]], .s (.int .i64 0), .s (.slice none 0 0)]) = some (loadsP base d b op) := rfl
    simp only [spOf, this, Option.bind_some]
    rw [if_pos (by show 4 ≤ _; omega)]; rfl
  obtain ⟨o, hoe⟩ : ∃ o, ofO (loadsP base d b op) = o := ⟨_, rfl⟩
  rw [hoe] at L1 L2 hol hO
  have ht := take_iv hol
  have hdo := drop_all hol
  have hhd := head_iv hol
  rw [L2] at hhd
  simp only [go_sem, seval, eq_self, reduceCtorEq, cLaw3_at, spTrue_mv, spTrue_fn, g0, g1, g2, g3, g4, g5, g6, g7, spOf_mv, hO, ht, hdo, hol, List.length_map]
  repeat' ((first | (refine AG_of ?_ ?_ <;> intro h) | (refine AB_of ?_ ?_ <;> intro h) | (refine A_draw_of [] [] (by kernel_rfl) ?_ <;> have h := mark)) <;> simp only [go_sem, seval, eq_self, reduceCtorEq, cLaw3_at, spTrue_mv, spTrue_fn, g0, g1, g2, g3, g4, g5, g6, g7, spOf_mv, hO, ht, hdo, hol, List.length_map, h])
  refine A_loop (loadsI base d b o) (fun s => 17 - (numOf (s.env 12)).toNat) ?_ ?_
  · exact ⟨by simp [upd, init, V.unfr], by simp [upd, init, V.unfr], by simp [upd, init, V.unfr], by simp [upd], by simp [upd], 1, by simp [upd], by omega, by omega⟩
  intro s hs
  obtain ⟨e0, e1, e2, e11, t11, k, e12, hk1, hk⟩ := hs
  rcases Nat.lt_or_ge k 16 with hlt | hge
  · have q0 : decide ((k : Int) < 16) = true := by simp; omega
    have z0 := Int.natCast_nonneg k
    have z1 : (k : Int) < 16 := by omega
    have n2 : IntKind.i64.wrap ((k : Int) + 1) = (k + 1 : Nat) := by rw [w_i64 (by omega) (by omega)]; omega
    have hd1 := drop_iv (o := o) (k := k) (by omega)
    have hon := L1 k hk1 hlt
    unfold onL at hon
    cases a1 : ((k : Int) == base)
    · rw [a1, Bool.false_or] at hon
      cases a2 : (b == base)
      · rw [a2, Bool.false_and] at hon
        simp only [go_sem, seval, eq_self, reduceCtorEq, e0, e1, e2, e11, t11, e12, q0, z0, z1, n2, hd1, hon, a1, a2, hol, List.length_map, Int.toNat_natCast, Nat.mul_one, Nat.zero_add, bne_self_eq_false]
        repeat' ((first | (refine AG_of ?_ ?_ <;> intro h) | (refine AB_of ?_ ?_ <;> intro h) | (refine A_draw_of [] [] (by kernel_rfl) ?_ <;> have h := mark)) <;> simp only [go_sem, seval, eq_self, reduceCtorEq, e0, e1, e2, e11, t11, e12, q0, z0, z1, n2, hd1, hon, a1, a2, hol, List.length_map, Int.toNat_natCast, Nat.mul_one, Nat.zero_add, bne_self_eq_false, h])
        exact ⟨⟨by simp [upd, e0], by simp [upd, e1], by simp [upd, e2], by simp [upd, e11], by simp [upd, t11], k + 1, by simp [upd], by omega, by omega⟩, by simp [upd, numOf, e12]; omega⟩
      · rw [a2, Bool.true_and] at hon
        cases a3 : ((k : Int) == d)
        · rw [a3, Bool.false_or] at hon
          cases a4 : ((k : Int) == b)
          · rw [a4] at hon
            simp only [go_sem, seval, eq_self, reduceCtorEq, e0, e1, e2, e11, t11, e12, q0, z0, z1, n2, hd1, hon, a1, a2, a3, a4, hol, List.length_map, Int.toNat_natCast, Nat.mul_one, Nat.zero_add, bne_self_eq_false]
            repeat' ((first | (refine AG_of ?_ ?_ <;> intro h) | (refine AB_of ?_ ?_ <;> intro h) | (refine A_draw_of [] [] (by kernel_rfl) ?_ <;> have h := mark)) <;> simp only [go_sem, seval, eq_self, reduceCtorEq, e0, e1, e2, e11, t11, e12, q0, z0, z1, n2, hd1, hon, a1, a2, a3, a4, hol, List.length_map, Int.toNat_natCast, Nat.mul_one, Nat.zero_add, bne_self_eq_false, h])
            exact ⟨⟨by simp [upd, e0], by simp [upd, e1], by simp [upd, e2], by simp [upd, e11], by simp [upd, t11], k + 1, by simp [upd], by omega, by omega⟩, by simp [upd, numOf, e12]; omega⟩
          · rw [a4] at hon
            simp only [go_sem, seval, eq_self, reduceCtorEq, e0, e1, e2, e11, t11, e12, q0, z0, z1, n2, hd1, hon, a1, a2, a3, a4, hol, List.length_map, Int.toNat_natCast, Nat.mul_one, Nat.zero_add, bne_self_eq_false]
            repeat' ((first | (refine AG_of ?_ ?_ <;> intro h) | (refine AB_of ?_ ?_ <;> intro h) | (refine A_draw_of [] [] (by kernel_rfl) ?_ <;> have h := mark)) <;> simp only [go_sem, seval, eq_self, reduceCtorEq, e0, e1, e2, e11, t11, e12, q0, z0, z1, n2, hd1, hon, a1, a2, a3, a4, hol, List.length_map, Int.toNat_natCast, Nat.mul_one, Nat.zero_add, bne_self_eq_false, h])
            exact ⟨⟨by simp [upd, e0], by simp [upd, e1], by simp [upd, e2], by simp [upd, e11], by simp [upd, t11], k + 1, by simp [upd], by omega, by omega⟩, by simp [upd, numOf, e12]; omega⟩
        · rw [a3, Bool.true_or] at hon
          simp only [go_sem, seval, eq_self, reduceCtorEq, e0, e1, e2, e11, t11, e12, q0, z0, z1, n2, hd1, hon, a1, a2, a3, hol, List.length_map, Int.toNat_natCast, Nat.mul_one, Nat.zero_add, bne_self_eq_false]
          repeat' ((first | (refine AG_of ?_ ?_ <;> intro h) | (refine AB_of ?_ ?_ <;> intro h) | (refine A_draw_of [] [] (by kernel_rfl) ?_ <;> have h := mark)) <;> simp only [go_sem, seval, eq_self, reduceCtorEq, e0, e1, e2, e11, t11, e12, q0, z0, z1, n2, hd1, hon, a1, a2, a3, hol, List.length_map, Int.toNat_natCast, Nat.mul_one, Nat.zero_add, bne_self_eq_false, h])
          exact ⟨⟨by simp [upd, e0], by simp [upd, e1], by simp [upd, e2], by simp [upd, e11], by simp [upd, t11], k + 1, by simp [upd], by omega, by omega⟩, by simp [upd, numOf, e12]; omega⟩
    · rw [a1, Bool.true_or] at hon
      simp only [go_sem, seval, eq_self, reduceCtorEq, e0, e1, e2, e11, t11, e12, q0, z0, z1, n2, hd1, hon, a1, hol, List.length_map, Int.toNat_natCast, Nat.mul_one, Nat.zero_add, bne_self_eq_false]
      repeat' ((first | (refine AG_of ?_ ?_ <;> intro h) | (refine AB_of ?_ ?_ <;> intro h) | (refine A_draw_of [] [] (by kernel_rfl) ?_ <;> have h := mark)) <;> simp only [go_sem, seval, eq_self, reduceCtorEq, e0, e1, e2, e11, t11, e12, q0, z0, z1, n2, hd1, hon, a1, hol, List.length_map, Int.toNat_natCast, Nat.mul_one, Nat.zero_add, bne_self_eq_false, h])
      exact ⟨⟨by simp [upd, e0], by simp [upd, e1], by simp [upd, e2], by simp [upd, e11], by simp [upd, t11], k + 1, by simp [upd], by omega, by omega⟩, by simp [upd, numOf, e12]; omega⟩
  · have q0 : decide ((k : Int) < 16) = false := by simp; omega
    simp only [go_sem, seval, eq_self, reduceCtorEq, e0, e1, e2, e11, t11, e12, q0, hhd, hol, List.length_map]
    repeat' ((first | (refine AG_of ?_ ?_ <;> intro h) | (refine AB_of ?_ ?_ <;> intro h) | (refine A_draw_of [] [] (by kernel_rfl) ?_ <;> have h := mark)) <;> simp only [go_sem, seval, eq_self, reduceCtorEq, e0, e1, e2, e11, t11, e12, q0, hhd, hol, List.length_map, h])
    all_goals (first | refine fin_ret ?_ | refine fin_normal ?_)
    all_goals simp only [resOf, Try.results7, Try.ntmps7, go_sem, seval, eq_self, reduceCtorEq]
end Go.Proofs.Ytnhpkdkffpagdaa
