/-
The laws of chapter 11: OwnerJoins. No condition.
-/
import Derived.Test.YtnhpkdkffpagdaaOf
namespace Go.Proofs.Ytnhpkdkffpagdaa
set_option linter.unusedSimpArgs false
set_option linter.unusedVariables false

theorem clo_iv (k : Bool) (o : List Int) : V.cloL k (o.map iv) = true := by
  induction o with
  | nil => rfl
  | cons a o ih => rw [List.map_cons, V.cloL, ih]; rfl
attribute [go_sem high] clo_iv
theorem oAt_nat (o : List Int) {r : Int} (h : 0 ≤ r) : oAt o ((r.toNat : Nat) : Int) = oAt o r := by rw [show ((r.toNat : Nat) : Int) = r by omega]
theorem wants_iff {i : Ins} (hi : rightB i = true) {o : List Int} (h : OkO o) : wantsB i o = false ↔ (reachB i = true → i.a = 0 ∨ oAt o i.a = 1) ∧ (reckB i = true → oAt o i.d = 1 → ∀ r ∈ readsL i, oAt o r = 1) := by
  have hf := right_fit hi
  have h0 := hf.a0
  have h1 := hf.a1
  have two : ∀ r : Int, 1 ≤ r → r < 16 → ((oAt o r == 2) = false ↔ oAt o r = 1) := fun r h1 h2 => by
    have := h.side r.toNat (by omega) (by omega)
    rw [oAt_nat o (by omega)] at this
    rcases this with e | e <;> simp [e]
  unfold wantsB
  rw [Bool.or_eq_false_iff]
  refine and_congr ?_ ?_
  · cases hre : reachB i
    · simp
    · rw [Bool.true_and]
      by_cases ha : i.a = 0
      · rw [ha, h.zero]; simp
      · rw [two _ (by omega) (by omega)]
        simp [ha]
  · cases hre : reckB i
    · simp
    · rw [Bool.true_and]
      by_cases hd : oAt o i.d = 1
      · have e : (oAt o i.d == 1) = true := by simp [hd]
        rw [e, Bool.true_and]
        unfold onEB
        rw [List.any_eq_false]
        constructor
        · intro k _ _ r hr
          have := k r hr
          have hb := reads_bd hr
          exact (two r (by omega) hb.2).1 (by simpa using this)
        · intro k r hr
          have := k rfl hd r hr
          simp [this]
      · have e : (oAt o i.d == 1) = false := by simp [hd]
        rw [e, Bool.false_and]
        simp [hd]
def vS (x y : List Int) : Nat → List Int
  | 0 => x
  | n + 1 => if (oAt y (n + 1 : Nat) == 1) = true then vS x y n else (vS x y n).set (n + 1) 2
theorem vS_len (a b : List Int) (n : Nat) : (vS a b n).length = a.length := by
  induction n with
  | zero => rfl
  | succ n ih =>
    rw [vS]
    split
    · exact ih
    · rw [List.length_set, ih]
theorem wS_at {a : List Int} (b : List Int) (ha : a.length = 16) (n : Nat) (hn : n ≤ 15) (j : Nat) : oAt (wS a b n) j = if (1 ≤ j ∧ j ≤ n) ∧ oAt b j = 1 then 1 else oAt a j := by
  induction n with
  | zero => rw [if_neg (by omega)]; rfl
  | succ n ih =>
    have hl := wS_len a b n
    rw [wS]
    split
    · rename_i hb
      simp only [beq_iff_eq] at hb
      rw [oAt_set (by omega), ih (by omega)]
      by_cases e : j = n + 1
      · rw [if_pos e, if_pos ⟨by omega, by rw [e]; exact hb⟩]
      · rw [if_neg e]
        by_cases h : (1 ≤ j ∧ j ≤ n) ∧ oAt b j = 1
        · rw [if_pos h, if_pos ⟨by omega, h.2⟩]
        · rw [if_neg h, if_neg (fun k => h ⟨by omega, k.2⟩)]
    · rename_i hb
      simp only [beq_iff_eq] at hb
      rw [ih (by omega)]
      by_cases h : (1 ≤ j ∧ j ≤ n) ∧ oAt b j = 1
      · rw [if_pos h, if_pos ⟨by omega, h.2⟩]
      · rw [if_neg h, if_neg (fun k => h ⟨⟨k.1.1, by
          rcases Nat.lt_or_ge j (n + 1) with q | q
          · omega
          · have : j = n + 1 := by omega
            subst this
            exact absurd k.2 hb⟩, k.2⟩)]
theorem vS_at {a : List Int} (b : List Int) (ha : a.length = 16) (n : Nat) (hn : n ≤ 15) (j : Nat) : oAt (vS a b n) j = if (1 ≤ j ∧ j ≤ n) ∧ oAt b j ≠ 1 then 2 else oAt a j := by
  induction n with
  | zero => rw [if_neg (by omega)]; rfl
  | succ n ih =>
    have hl := vS_len a b n
    rw [vS]
    split
    · rename_i hb
      simp only [beq_iff_eq] at hb
      rw [ih (by omega)]
      by_cases h : (1 ≤ j ∧ j ≤ n) ∧ oAt b j ≠ 1
      · rw [if_pos h, if_pos ⟨by omega, h.2⟩]
      · rw [if_neg h, if_neg (fun k => h ⟨⟨k.1.1, by
          rcases Nat.lt_or_ge j (n + 1) with q | q
          · omega
          · have : j = n + 1 := by omega
            subst this
            exact absurd hb k.2⟩, k.2⟩)]
    · rename_i hb
      simp only [beq_iff_eq] at hb
      rw [oAt_set (by omega), ih (by omega)]
      by_cases e : j = n + 1
      · rw [if_pos e, if_pos ⟨by omega, by rw [e]; exact hb⟩]
      · rw [if_neg e]
        by_cases h : (1 ≤ j ∧ j ≤ n) ∧ oAt b j ≠ 1
        · rw [if_pos h, if_pos ⟨by omega, h.2⟩]
        · rw [if_neg h, if_neg (fun k => h ⟨by omega, k.2⟩)]
theorem wS_ok {a b : List Int} (ha : OkO a) : OkO (wS a b 15) := by
  refine ⟨by rw [wS_len]; exact ha.len, ?_, fun j h1 h2 => ?_⟩
  · have := wS_at b ha.len 15 (by omega) 0
    rw [if_neg (by omega)] at this
    exact this.trans ha.zero
  · rw [wS_at b ha.len 15 (by omega)]
    split
    · exact .inl rfl
    · exact ha.side j h1 h2
theorem vS_ok {a b : List Int} (ha : OkO a) : OkO (vS a b 15) := by
  refine ⟨by rw [vS_len]; exact ha.len, ?_, fun j h1 h2 => ?_⟩
  · have := vS_at b ha.len 15 (by omega) 0
    rw [if_neg (by omega)] at this
    exact this.trans ha.zero
  · rw [vS_at b ha.len 15 (by omega)]
    split
    · exact .inr rfl
    · exact ha.side j h1 h2
theorem wS_one {a b : List Int} (ha : OkO a) (hb : OkO b) {r : Int} (h0 : 0 ≤ r) (h1 : r < 16) : oAt (wS a b 15) r = 1 ↔ oAt a r = 1 ∨ oAt b r = 1 := by
  obtain ⟨j, rfl⟩ : ∃ j : Nat, r = j := ⟨r.toNat, by omega⟩
  rw [wS_at b ha.len 15 (by omega)]
  by_cases hj : j = 0
  · subst hj
    rw [if_neg (by omega)]
    have := hb.zero
    constructor
    · exact .inl
    · rintro (h | h)
      · exact h
      · rw [show ((0 : Nat) : Int) = 0 from rfl, hb.zero] at h; omega
  · by_cases e : oAt b j = 1
    · rw [if_pos ⟨by omega, e⟩]; simp [e]
    · rw [if_neg (fun k => e k.2)]; simp [e]
theorem vS_one {a b : List Int} (ha : OkO a) (hb : OkO b) {r : Int} (h0 : 0 ≤ r) (h1 : r < 16) : oAt (vS a b 15) r = 1 ↔ oAt a r = 1 ∧ oAt b r = 1 := by
  obtain ⟨j, rfl⟩ : ∃ j : Nat, r = j := ⟨r.toNat, by omega⟩
  rw [vS_at b ha.len 15 (by omega)]
  by_cases hj : j = 0
  · subst hj
    rw [if_neg (by omega)]
    have h1 := ha.zero
    rw [show ((0 : Nat) : Int) = 0 from rfl]
    constructor
    · intro h; rw [h1] at h; omega
    · rintro ⟨h, _⟩; exact h
  · by_cases e : oAt b j = 1
    · rw [if_neg (fun k => k.2 e)]; simp [e]
    · rw [if_pos ⟨by omega, e⟩]; simp [e]
theorem join_closed {p : Prg} {x y : List Int} (hx : x.length = 16) (hy : y.length = 16) (h1 : closedB p x = true) (h2 : closedB p y = true) : closedB p (wS x y 15) = true ∧ closedB p (vS x y 15) = true := by
  obtain ⟨r1, ox, wx⟩ := (closedB_iff hx).1 h1
  obtain ⟨_, oy, wy⟩ := (closedB_iff hy).1 h2
  obtain ⟨hall, _⟩ := rightP_all r1
  refine ⟨(closedB_iff (by rw [wS_len, hx])).2 ⟨r1, wS_ok ox, fun i hi => ?_⟩, (closedB_iff (by rw [vS_len, hx])).2 ⟨r1, vS_ok ox, fun i hi => ?_⟩⟩
  · have hr := List.all_eq_true.1 hall i hi
    have hf := right_fit hr
    have a0 := hf.a0; have a1 := hf.a1; have d0 := hf.d0; have d1 := hf.d1
    obtain ⟨x1, x2⟩ := (wants_iff hr ox).1 (wx i hi)
    obtain ⟨y1, y2⟩ := (wants_iff hr oy).1 (wy i hi)
    refine (wants_iff hr (wS_ok ox)).2 ⟨fun h => ?_, fun h hd r hb => ?_⟩
    · rcases x1 h with e | e
      · exact .inl e
      · exact .inr ((wS_one ox oy (by omega) (by omega)).2 (.inl e))
    · have hb2 := reads_bd hb
      rw [wS_one ox oy (by omega) (by omega)] at hd ⊢
      rcases hd with e | e
      · exact .inl (x2 h e r hb)
      · exact .inr (y2 h e r hb)
  · have hr := List.all_eq_true.1 hall i hi
    have hf := right_fit hr
    have a0 := hf.a0; have a1 := hf.a1; have d0 := hf.d0; have d1 := hf.d1
    obtain ⟨x1, x2⟩ := (wants_iff hr ox).1 (wx i hi)
    obtain ⟨y1, y2⟩ := (wants_iff hr oy).1 (wy i hi)
    refine (wants_iff hr (vS_ok ox)).2 ⟨fun h => ?_, fun h hd r hb => ?_⟩
    · rcases x1 h with e | e
      · exact .inl e
      · rcases y1 h with e2 | e2
        · exact .inl e2
        · exact .inr ((vS_one ox oy (by omega) (by omega)).2 ⟨e, e2⟩)
    · have hb2 := reads_bd hb
      rw [vS_one ox oy (by omega) (by omega)] at hd ⊢
      exact ⟨x2 h hd.1 r hb, y2 h hd.2 r hb⟩
def allO : List Int := [0, 1, 1, 1, 1, 1, 1, 1, 1, 1, 1, 1, 1, 1, 1, 1]
theorem all_own : ownS 65534 15 = allO := by kernel_rfl
theorem all_closed {p : Prg} (h : rightP p = true) : closedB p allO = true := by
  obtain ⟨hall, _⟩ := rightP_all h
  have side : ∀ j : Nat, 1 ≤ j → j < 16 → oAt allO j = 1 := fun j h1 h2 => by
    have : j = 1 ∨ j = 2 ∨ j = 3 ∨ j = 4 ∨ j = 5 ∨ j = 6 ∨ j = 7 ∨ j = 8 ∨ j = 9 ∨ j = 10 ∨ j = 11 ∨ j = 12 ∨ j = 13 ∨ j = 14 ∨ j = 15 := by omega
    rcases this with rfl | rfl | rfl | rfl | rfl | rfl | rfl | rfl | rfl | rfl | rfl | rfl | rfl | rfl | rfl <;> rfl
  have ok : OkO allO := ⟨rfl, rfl, fun j h1 h2 => .inl (side j h1 h2)⟩
  refine (closedB_iff rfl).2 ⟨h, ok, fun i hi => ?_⟩
  have hr := List.all_eq_true.1 hall i hi
  have hf := right_fit hr
  have a0 := hf.a0; have a1 := hf.a1
  refine (wants_iff hr ok).2 ⟨fun _ => ?_, fun _ _ r hb => ?_⟩
  · by_cases e : i.a = 0
    · exact .inl e
    · right
      have := side i.a.toNat (by omega) (by omega)
      rwa [oAt_nat _ a0] at this
  · have hb2 := reads_bd hb
    have := side r.toNat (by omega) (by omega)
    rwa [oAt_nat _ (by omega)] at this

def spJoins : Spec := ⟨[], fun xs => match xs with
  | [x, .s (.int .i64 _), .s (.int .i64 _)] => (prgOf x).bind fun _ => some (.s (.bool true))
  | _ => none⟩
def joinI (p : Prg) (x y : List Int) (s : S) : Prop :=
  s.env 3 = .ptr 3 1 0 ∧ s.st 3 = ⟨1, .box [.lst false 5 (p.code.map Ins.v), .s (.int .i64 p.size), .lst false 1 (p.data.map u8v)]⟩ ∧ s.env 10 = .ptr 10 1 0 ∧ s.st 10 = ⟨1, .box (y.map iv)⟩ ∧ s.env 12 = .ptr 12 1 0 ∧ s.env 13 = .ptr 13 1 0 ∧
  ∃ k : Nat, s.env 14 = .s (.int .i64 (k + 1 : Nat)) ∧ k ≤ 15 ∧ s.st 12 = ⟨1, .box ((wS x y k).map iv)⟩ ∧ s.st 13 = ⟨1, .box ((vS x y k).map iv)⟩
set_option maxHeartbeats 4000000 in
set_option maxRecDepth 8000 in
theorem joins_impl : Impl Try.prog 5 spJoins := by
  refine impl_walk2 mixed cLaw3_ok eqT_ok Try.func5 rfl Try.ntmps5 (by kernel_rfl) ?_
  intro xs r h
  unfold spJoins at h
  simp only at h
  (try split at h) <;> try (cases (show none = some r from h); done)
  rename_i x0 a b
  obtain ⟨p, hp, h3⟩ := Option.bind_eq_some_iff.1 h
  clear h
  cases h3
  refine ⟨_, (SeesL.cons (prgOf_sees hp) .same).args, by simp, ?_⟩
  have hf := few_v p
  have hr := rightP_v p
  simp only [Prg.v] at hf hr
  cases c1 : fewB p
  · rw [c1] at hf
    simp only [go_sem, seval, eq_self, reduceCtorEq, Prg.v, cLaw3_at, spTrue_mv, spTrue_fn, spFew_mv, hf]
    repeat' ((first | (refine AG_of ?_ ?_ <;> intro h) | (refine AB_of ?_ ?_ <;> intro h) | (refine A_draw_of [] [] (by kernel_rfl) ?_ <;> have h := mark)) <;> simp only [go_sem, seval, eq_self, reduceCtorEq, Prg.v, cLaw3_at, spTrue_mv, spTrue_fn, spFew_mv, hf, h])
    all_goals (first | refine fin_ret ?_ | refine fin_normal ?_)
    all_goals simp only [resOf, Try.results5, Try.ntmps5, go_sem, seval, eq_self, reduceCtorEq]
  rw [c1] at hf
  cases c2 : rightP p
  · rw [c2] at hr
    simp only [go_sem, seval, eq_self, reduceCtorEq, Prg.v, cLaw3_at, spTrue_mv, spTrue_fn, spFew_mv, hf, spRightP_mv, hr]
    repeat' ((first | (refine AG_of ?_ ?_ <;> intro h) | (refine AB_of ?_ ?_ <;> intro h) | (refine A_draw_of [] [] (by kernel_rfl) ?_ <;> have h := mark)) <;> simp only [go_sem, seval, eq_self, reduceCtorEq, Prg.v, cLaw3_at, spTrue_mv, spTrue_fn, spFew_mv, hf, spRightP_mv, hr, h])
    all_goals (first | refine fin_ret ?_ | refine fin_normal ?_)
    all_goals simp only [resOf, Try.results5, Try.ntmps5, go_sem, seval, eq_self, reduceCtorEq]
  rw [c2] at hr
  have hcl : p.code.length ≤ 1000000000 := by
    simp only [fewB, Bool.and_eq_true, decide_eq_true_eq] at c1; omega
  have hO := of_v hcl
  have hol := of_len p
  obtain ⟨oa, hoa⟩ : ∃ o, ownS a 15 = o := ⟨_, rfl⟩
  obtain ⟨ob, hob⟩ : ∃ o, ownS b 15 = o := ⟨_, rfl⟩
  have hla : oa.length = 16 := by rw [← hoa]; exact ownS_len _ _
  have hlb : ob.length = 16 := by rw [← hob]; exact ownS_len _ _
  have hWa : spOwners.fn [.s (.int .i64 a)] = some (.agg (oa.map iv)) := by rw [← hoa]; rfl
  have hWb : spOwners.fn [.s (.int .i64 b)] = some (.agg (ob.map iv)) := by rw [← hob]; rfl
  have hWc : spOwners.fn [.s (.int .i64 65534)] = some (.agg (allO.map iv)) := by rw [← all_own]; rfl
  have hX := spWith_v hol hla
  have hY := spWith_v hol hlb
  have hlx : (wS (ofO p) oa 15).length = 16 := by rw [wS_len, hol]
  have hly : (wS (ofO p) ob 15).length = 16 := by rw [wS_len, hol]
  obtain ⟨x, hx⟩ : ∃ x, wS (ofO p) oa 15 = x := ⟨_, rfl⟩
  obtain ⟨y, hy⟩ : ∃ x, wS (ofO p) ob 15 = x := ⟨_, rfl⟩
  rw [hx] at hX hlx
  rw [hy] at hY hly
  have hCa := closed_v (o := allO) rfl p
  rw [all_closed c2] at hCa
  have hCx := closed_v hlx p
  have hCy := closed_v hly p
  have ht1 := take_iv hol
  have ht2 := take_iv (o := allO) rfl
  have ht3 := take_iv hlx
  have ht4 := take_iv hly
  have hd3 := drop_all hlx
  have hal : allO.length = 16 := rfl
  simp only [Prg.v] at hO hCa hCx hCy
  simp only [go_sem, seval, eq_self, reduceCtorEq, Prg.v, cLaw3_at, spTrue_mv, spTrue_fn, spFew_mv, hf, spRightP_mv, hr, spOf_mv, hO, ht1, hol, List.length_map]
  repeat' ((first | (refine AG_of ?_ ?_ <;> intro h) | (refine AB_of ?_ ?_ <;> intro h)) <;> simp only [go_sem, seval, eq_self, reduceCtorEq, Prg.v, cLaw3_at, spTrue_mv, spTrue_fn, spFew_mv, hf, spRightP_mv, hr, spOf_mv, hO, ht1, hol, List.length_map, h])
  refine A_draw_of [9] [9] (by kernel_rfl) ?_
  simp only [go_sem, seval, eq_self, reduceCtorEq, Prg.v, cLaw3_at, spOwners_mv, hWa, spWith_mv, hX, ht1, ht3, hol, hlx, List.length_map]
  repeat' ((first | (refine AG_of ?_ ?_ <;> intro h) | (refine AB_of ?_ ?_ <;> intro h)) <;> simp only [go_sem, seval, eq_self, reduceCtorEq, Prg.v, cLaw3_at, spOwners_mv, hWa, spWith_mv, hX, ht1, ht3, hol, hlx, List.length_map, h])
  refine A_draw_of [10] [10] (by kernel_rfl) ?_
  cases c3 : closedB p x
  · rw [c3] at hCx
    simp only [go_sem, seval, eq_self, reduceCtorEq, Prg.v, cLaw3_at, spOwners_mv, hWb, hWc, spWith_mv, hY, spClosed_mv, hCa, hCx, ht1, ht2, ht3, ht4, hol, hlx, hly, hal, List.length_map]
    repeat' ((first | (refine AG_of ?_ ?_ <;> intro h) | (refine AB_of ?_ ?_ <;> intro h)) <;> simp only [go_sem, seval, eq_self, reduceCtorEq, Prg.v, cLaw3_at, spOwners_mv, hWb, hWc, spWith_mv, hY, spClosed_mv, hCa, hCx, ht1, ht2, ht3, ht4, hol, hlx, hly, hal, List.length_map, h])
    all_goals (first | refine fin_ret ?_ | refine fin_normal ?_)
    all_goals simp only [resOf, Try.results5, Try.ntmps5, go_sem, seval, eq_self, reduceCtorEq]
  rw [c3] at hCx
  cases c4 : closedB p y
  · rw [c4] at hCy
    simp only [go_sem, seval, eq_self, reduceCtorEq, Prg.v, cLaw3_at, spOwners_mv, hWb, hWc, spWith_mv, hY, spClosed_mv, hCa, hCx, hCy, ht1, ht2, ht3, ht4, hol, hlx, hly, hal, List.length_map]
    repeat' ((first | (refine AG_of ?_ ?_ <;> intro h) | (refine AB_of ?_ ?_ <;> intro h)) <;> simp only [go_sem, seval, eq_self, reduceCtorEq, Prg.v, cLaw3_at, spOwners_mv, hWb, hWc, spWith_mv, hY, spClosed_mv, hCa, hCx, hCy, ht1, ht2, ht3, ht4, hol, hlx, hly, hal, List.length_map, h])
    all_goals (first | refine fin_ret ?_ | refine fin_normal ?_)
    all_goals simp only [resOf, Try.results5, Try.ntmps5, go_sem, seval, eq_self, reduceCtorEq]
  rw [c4] at hCy
  obtain ⟨hju, hjv⟩ := join_closed hlx hly c3 c4
  simp only [go_sem, seval, eq_self, reduceCtorEq, Prg.v, cLaw3_at, spOwners_mv, hWb, hWc, spWith_mv, hY, spClosed_mv, hCa, hCx, hCy, ht1, ht2, ht3, ht4, hol, hlx, hly, hal, List.length_map]
  repeat' ((first | (refine AG_of ?_ ?_ <;> intro h) | (refine AB_of ?_ ?_ <;> intro h)) <;> simp only [go_sem, seval, eq_self, reduceCtorEq, Prg.v, cLaw3_at, spOwners_mv, hWb, hWc, spWith_mv, hY, spClosed_mv, hCa, hCx, hCy, ht1, ht2, ht3, ht4, hol, hlx, hly, hal, List.length_map, h])
  refine A_loop (joinI p x y) (fun s => 17 - (numOf (s.env 14)).toNat) ?_ ?_
  · exact ⟨by simp [upd], by simp [upd, V.unfr, V.unfrL], by simp [upd], by simp [upd], by simp [upd], by simp [upd], 0, by simp [upd], by omega, by simp [upd]; rfl, by simp [upd]; rfl⟩
  intro s hs
  obtain ⟨e3, t3, e10, t10, e12, e13, k, e14, hk, t12, t13⟩ := hs
  have hlu : (wS x y k).length = 16 := by rw [wS_len, hlx]
  have hlv : (vS x y k).length = 16 := by rw [vS_len, hlx]
  rcases Nat.lt_or_ge k 15 with hlt | hge
  · have g0 : decide (((k + 1 : Nat) : Int) < 16) = true := by simp; omega
    have z0 := Int.natCast_nonneg (k + 1)
    have z1 : ((k + 1 : Nat) : Int) < 16 := by omega
    have n2 : IntKind.i64.wrap (((k + 1 : Nat) : Int) + 1) = (k + 1 + 1 : Nat) := by rw [w_i64 (by omega) (by omega)]; omega
    have hs1 := spl_iv (o := wS x y k) (k := k + 1) (by omega) 1
    have hs2 := spl_iv (o := vS x y k) (k := k + 1) (by omega) 2
    have hdy := drop_iv (o := y) (k := k + 1) (by omega)
    have hle : k + 1 + 1 ≤ 16 := by omega
    have hsu : wS x y (k + 1) = if (oAt y (k + 1 : Nat) == 1) = true then (wS x y k).set (k + 1) 1 else wS x y k := rfl
    have hsv : vS x y (k + 1) = if (oAt y (k + 1 : Nat) == 1) = true then vS x y k else (vS x y k).set (k + 1) 2 := rfl
    cases hq : (oAt y (k + 1 : Nat) == 1)
    · rw [hq] at hsu hsv
      simp only [Bool.false_eq_true, if_false] at hsu hsv
      rw [← hsv] at hs2
      simp only [go_sem, seval, eq_self, reduceCtorEq, e3, t3, e10, t10, e12, t12, e13, t13, e14, g0, z0, z1, n2, hdy, hs2, hlu, hlv, hly, hle, hq, List.length_map, Int.toNat_natCast, Nat.mul_one, Nat.zero_add]
      repeat' ((first | (refine AG_of ?_ ?_ <;> intro h) | (refine AB_of ?_ ?_ <;> intro h) | (refine A_draw_of [] [] (by kernel_rfl) ?_ <;> have h := mark)) <;> simp only [go_sem, seval, eq_self, reduceCtorEq, e3, t3, e10, t10, e12, t12, e13, t13, e14, g0, z0, z1, n2, hdy, hs2, hlu, hlv, hly, hle, hq, List.length_map, Int.toNat_natCast, Nat.mul_one, Nat.zero_add, h])
      exact ⟨⟨by simp [upd, e3], by simp [upd, t3], by simp [upd, e10], by simp [upd, t10], by simp [upd, e12], by simp [upd, e13], k + 1, by simp [upd], by omega, by simp [upd, t12, hsu], by simp [upd]⟩, by simp [upd, numOf, e14]; omega⟩
    · rw [hq] at hsu hsv
      simp only [if_true] at hsu hsv
      rw [← hsu] at hs1
      simp only [go_sem, seval, eq_self, reduceCtorEq, e3, t3, e10, t10, e12, t12, e13, t13, e14, g0, z0, z1, n2, hdy, hs1, hlu, hlv, hly, hle, hq, List.length_map, Int.toNat_natCast, Nat.mul_one, Nat.zero_add]
      repeat' ((first | (refine AG_of ?_ ?_ <;> intro h) | (refine AB_of ?_ ?_ <;> intro h) | (refine A_draw_of [] [] (by kernel_rfl) ?_ <;> have h := mark)) <;> simp only [go_sem, seval, eq_self, reduceCtorEq, e3, t3, e10, t10, e12, t12, e13, t13, e14, g0, z0, z1, n2, hdy, hs1, hlu, hlv, hly, hle, hq, List.length_map, Int.toNat_natCast, Nat.mul_one, Nat.zero_add, h])
      exact ⟨⟨by simp [upd, e3], by simp [upd, t3], by simp [upd, e10], by simp [upd, t10], by simp [upd, e12], by simp [upd, e13], k + 1, by simp [upd], by omega, by simp [upd], by simp [upd, t13, hsv]⟩, by simp [upd, numOf, e14]; omega⟩
  · have hk15 : k = 15 := by omega
    subst hk15
    have hCu := closed_v hlu p
    have hCv := closed_v hlv p
    rw [hju] at hCu
    rw [hjv] at hCv
    simp only [Prg.v] at hCu hCv
    have hto := take_iv hlu
    have htv := take_iv hlv
    simp only [go_sem, seval, eq_self, reduceCtorEq, e3, t3, e10, t10, e12, t12, e13, t13, e14, cLaw3_at, spClosed_mv, hCu, hCv, hto, htv, hlu, hlv, List.length_map]
    repeat' ((first | (refine AG_of ?_ ?_ <;> intro h) | (refine AB_of ?_ ?_ <;> intro h) | (refine A_draw_of [] [] (by kernel_rfl) ?_ <;> have h := mark)) <;> simp only [go_sem, seval, eq_self, reduceCtorEq, e3, t3, e10, t10, e12, t12, e13, t13, e14, cLaw3_at, spClosed_mv, hCu, hCv, hto, htv, hlu, hlv, List.length_map, h])
    all_goals (first | refine fin_ret ?_ | refine fin_normal ?_)
    all_goals simp only [resOf, Try.results5, Try.ntmps5, go_sem, seval, eq_self, reduceCtorEq]
theorem joins_ok {x : V} {a b : Int} (h : ∃ p, prgOf x = some p ∧ p.data.all byte = true ∧ (∀ i ∈ p.code, WfI i) ∧ p.code.length ≤ maxLen ∧ p.data.length ≤ maxLen) : spJoins.fn [x, .s (.int .i64 a), .s (.int .i64 b)] = some (.s (.bool true)) := by
  obtain ⟨p, h1, _⟩ := h
  simp only [spJoins, h1, Option.bind_some]
end Go.Proofs.Ytnhpkdkffpagdaa
