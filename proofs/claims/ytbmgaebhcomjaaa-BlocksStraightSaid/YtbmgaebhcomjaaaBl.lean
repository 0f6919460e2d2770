/-
BlocksStraight: the plain law, and by the plain reckoning. No condition.
-/
import Derived.Test.YtbmgaebhcomjaaaBj
namespace Go.Proofs.Ytbmgaebhcomjaaa
set_option linter.unusedSimpArgs false
set_option linter.unusedVariables false

def addI (i : Nat) : Ins := ⟨17, 1, 1, 0, i⟩
def haltI1 : Ins := ⟨41, 0, 0, 0, 0⟩
def addL (n : Nat) : List Ins := (List.range n).map addI
def strP (n : Nat) (h : Bool) : Prg := ⟨if h then addL n ++ [haltI1] else addL n, 0, []⟩
theorem addL_len (n : Nat) : (addL n).length = n := by simp [addL]
theorem addL_succ (n : Nat) : addL (n + 1) = addL n ++ [addI n] := by
  unfold addL; rw [List.range_succ, List.map_append]; rfl
theorem add_right : ∀ i : Nat, i < 100 → rightB (addI i) = true := by decide +kernel
theorem add_brB (i : Nat) : brB (addI i) = false ∧ endB (addI i) = false := ⟨rfl, rfl⟩
theorem strP_len (n : Nat) (h : Bool) : (strP n h).code.length = if h then n + 1 else n := by
  cases h <;> simp [strP, addL_len]
theorem strP_mem {n : Nat} {h : Bool} {x : Ins} (hx : x ∈ (strP n h).code) : (∃ i, i < n ∧ x = addI i) ∨ x = haltI1 := by
  have key : x ∈ addL n → ∃ i, i < n ∧ x = addI i := by
    intro hm
    obtain ⟨i, hi, rfl⟩ := List.mem_map.1 hm
    exact ⟨i, by simpa using hi, rfl⟩
  cases h
  · exact .inl (key hx)
  · rcases List.mem_append.1 (show x ∈ addL n ++ [haltI1] from hx) with h | h
    · exact .inl (key h)
    · exact .inr (by simpa using h)
theorem strP_brB {n : Nat} {h : Bool} {x : Ins} (hx : x ∈ (strP n h).code) : brB x = false := by
  rcases strP_mem hx with ⟨i, _, rfl⟩ | rfl <;> rfl
theorem strP_bad {n : Nat} {h : Bool} {x : Ins} (hx : x ∈ (strP n h).code) (l k : Nat) : badI l k x = false := by
  rcases strP_mem hx with ⟨i, _, rfl⟩ | rfl <;> rfl
theorem strP_right {n : Nat} {h : Bool} (h1 : 1 ≤ n) (h2 : n ≤ 100) : rightP (strP n h) = true := by
  have hl := strP_len n h
  unfold rightP
  have e1 : headB (strP n h) = true := by
    unfold headB
    rw [hl]
    cases h <;> simp [strP] <;> omega
  have e2 : (strP n h).code.all rightB = true := by
    rw [List.all_eq_true]
    intro x hx
    rcases strP_mem hx with ⟨i, hi, rfl⟩ | rfl
    · exact add_right i (by omega)
    · rfl
  have e3 : targsB (strP n h) = false := by
    unfold targsB
    rw [List.any_eq_false]
    intro k hk
    unfold badAt
    cases hc : (strP n h).code[k]? with
    | none => simp
    | some x => simp only [strP_bad (List.mem_of_getElem? hc)]; simp
  rw [e1, e2, e3]; rfl
theorem strP_tgt (n : Nat) (h : Bool) (k : Nat) : tgt (strP n h) k = none := by
  unfold tgt
  cases hc : (strP n h).code[k]? with
  | none => rfl
  | some x => simp [strP_brB (List.mem_of_getElem? hc)]
theorem strP_end {n : Nat} {h : Bool} {k : Nat} (hk : k + 1 < (strP n h).code.length) : endAt (strP n h) k = false := by
  rw [strP_len] at hk
  have hkn : k < n := by cases h <;> simp at hk <;> omega
  have : (strP n h).code[k]? = some (addI k) := by
    have e : (addL n)[k]? = some (addI k) := by simp [addL, hkn]
    cases h
    · exact e
    · show (addL n ++ [haltI1])[k]? = _
      rw [List.getElem?_append_left (by rw [addL_len]; exact hkn)]; exact e
  unfold endAt
  rw [this]; rfl
theorem strP_lead {n : Nat} {h : Bool} (h1 : 1 ≤ n) (h2 : n ≤ 100) : leadL (strP n h) = [0] := by
  have hr := strP_right (h := h) h1 h2
  have hz := lead_zero hr
  have hall : ∀ x ∈ leadL (strP n h), x = 0 := by
    intro x hx
    have hb := lead_bd hx
    obtain ⟨j, rfl⟩ : ∃ j : Nat, x = j := ⟨x.toNat, by omega⟩
    obtain ⟨hj, hi⟩ := of_lead hx
    unfold isLead flagAt at hi
    have e : (List.range (strP n h).code.length).any (fun n_1 => tgt (strP n h) n_1 == some j) = false := by
      rw [List.any_eq_false]; intro k _; rw [strP_tgt]; simp
    rw [e] at hi
    rcases Nat.eq_zero_or_pos j with rfl | hp
    · rfl
    · have := strP_end (h := h) (n := n) (k := j - 1) (by omega)
      rw [this] at hi
      simp at hi
      omega
  have hinc := leadL_inc (strP n h)
  match hL : leadL (strP n h) with
  | [] => rw [hL] at hz; simp at hz
  | [a] => rw [hL] at hall; rw [hall a (by simp)]
  | a :: b :: t =>
    rw [hL] at hall hinc
    have := hall a (by simp)
    have := hall b (by simp)
    have := (List.pairwise_cons.1 hinc).1 b (by simp)
    omega
theorem strP_cut {n : Nat} {h : Bool} (h1 : 1 ≤ n) (h2 : n ≤ 100) : cutL (strP n h) = [⟨0, (strP n h).code.length, -1, -1⟩] := by
  unfold cutL cutF
  rw [strP_lead h1 h2]
  show [blkAt (strP n h) [0] 0] = _
  unfold blkAt toAt
  simp [strP_tgt]
theorem scal_ins (l : List Ins) : (l.map Ins.v).all V.scal = true := by
  rw [List.all_eq_true]; intro x hx; obtain ⟨b, _, rfl⟩ := List.mem_map.1 hx; rfl
def spStr : Spec := ⟨[], fun xs => match xs with
  | [.s (.int .i64 _), .s (.bool _)] => some (.s (.bool true))
  | _ => none⟩
theorem str_call {n : Nat} {h : Bool} (h1 : 1 ≤ n) (h2 : n ≤ 100) {c : List V} (hc : (strP n h).code.map Ins.v = c) : spCut.fn [.agg [.lst false 5 c, .s (.int .i64 0), .s (.slice none 0 0)]] = some (.lst true 6 [.agg [.s (.int .i64 0), .s (.int .i64 (strP n h).code.length), .s (.int .i64 (-1)), .s (.int .i64 (-1)), .s (.slice none 0 0), .s (.slice none 0 0)]]) := by
  have hp : prgOf (.agg [.lst false 5 c, .s (.int .i64 0), .s (.slice none 0 0)]) = some (strP n h) := by
    rw [← hc]
    have := mapM_of (f := insOf) (g := Ins.v) (fun _ => rfl) (strP n h).code
    simp only [prgOf, lOf, if_true, Option.bind_some, this]
    rfl
  simp only [spCut, hp, Option.bind_some, strP_cut h1 h2]
  rw [if_pos (strP_right h1 h2)]
  rfl
def strI (n : Nat) (b : Bool) (s : S) : Prop :=
  s.env 0 = .s (.int .i64 n) ∧ s.env 1 = .s (.bool b) ∧ s.env 6 = .ptr 6 1 0 ∧
  ∃ k : Nat, s.env 7 = .s (.int .i64 k) ∧ k ≤ n ∧
    ((k = 0 ∧ s.st 6 = ⟨1, .box [.s (.slice none 0 0), .s (.int .i64 0), .s (.slice none 0 0)]⟩) ∨
    ∃ v, s.st 6 = ⟨1, .box [.sw 32 v k, .s (.int .i64 0), .s (.slice none 0 0)]⟩ ∧ s.st 32 = ⟨v, .row 5 41 ((addL k).map Ins.v)⟩)
set_option maxHeartbeats 4000000 in
set_option maxRecDepth 8000 in
theorem str_impl : Impl Try.prog 5 spStr := by
  refine impl_walk mixed cB6_ok eqT_ok Try.func5 rfl Try.ntmps5 (by kernel_rfl) ?_
  intro xs r h
  unfold spStr at h
  simp only at h
  (try split at h) <;> try (cases (show none = some r from h); done)
  rename_i n b
  cases h
  refine ⟨by simp, ?_⟩
  by_cases c0 : n < 1
  · have g0 : decide (n < 1) = true := by simp [c0]
    simp only [go_sem, seval, eq_self, reduceCtorEq, cB6_at, spTrueB_mv, spTrueB_fn, g0]
    repeat' ((first | (refine AG_of ?_ ?_ <;> intro h) | (refine AB_of ?_ ?_ <;> intro h) | (refine A_draw_of [] [] (by kernel_rfl) ?_ <;> have h := mark)) <;> simp only [go_sem, seval, eq_self, reduceCtorEq, cB6_at, spTrueB_mv, spTrueB_fn, g0, h])
    all_goals (first | refine fin_ret ?_ | refine fin_normal ?_)
    all_goals simp only [resOf, Try.results5, Try.ntmps5, go_sem, seval, eq_self, reduceCtorEq]
  have g0 : decide (n < 1) = false := by simp; omega
  by_cases c1 : 100 < n
  · have g1 : decide (100 < n) = true := by simp [c1]
    simp only [go_sem, seval, eq_self, reduceCtorEq, cB6_at, spTrueB_mv, spTrueB_fn, g0, g1]
    repeat' ((first | (refine AG_of ?_ ?_ <;> intro h) | (refine AB_of ?_ ?_ <;> intro h) | (refine A_draw_of [] [] (by kernel_rfl) ?_ <;> have h := mark)) <;> simp only [go_sem, seval, eq_self, reduceCtorEq, cB6_at, spTrueB_mv, spTrueB_fn, g0, g1, h])
    all_goals (first | refine fin_ret ?_ | refine fin_normal ?_)
    all_goals simp only [resOf, Try.results5, Try.ntmps5, go_sem, seval, eq_self, reduceCtorEq]
  have g1 : decide (100 < n) = false := by simp; omega
  obtain ⟨N, rfl⟩ : ∃ N : Nat, n = N := ⟨n.toNat, by omega⟩
  simp only [go_sem, seval, eq_self, reduceCtorEq, cB6_at, spTrueB_mv, spTrueB_fn, g0, g1]
  repeat' ((first | (refine AG_of ?_ ?_ <;> intro h) | (refine AB_of ?_ ?_ <;> intro h)) <;> simp only [go_sem, seval, eq_self, reduceCtorEq, cB6_at, spTrueB_mv, spTrueB_fn, g0, g1, h])
  refine A_loop (strI N b) (fun s => N - (numOf (s.env 7)).toNat) ?_ ?_
  · refine ⟨by simp [upd, init, V.unfr], by simp [upd, init, V.unfr], by simp [upd], 0, by simp [upd], by omega, .inl ⟨rfl, by simp [upd, init]⟩⟩
  intro s hs
  obtain ⟨e0, e1, e6, k, e7, hk, hbox⟩ := hs
  obtain ⟨O, hO⟩ : ∃ O, (addL k).map Ins.v = O := ⟨_, rfl⟩
  have hOl : O.length = k := by rw [← hO, List.length_map, addL_len]
  have hsc := scal_ins (addL k)
  rw [hO] at hsc
  have hOs : (addL (k + 1)).map Ins.v = O ++ [.agg [.s (.int .i64 17), .s (.int .i64 1), .s (.int .i64 1), .s (.int .i64 0), .s (.int .i64 k)]] := by
    rw [addL_succ, List.map_append, hO]; rfl
  have f1 : (k + 1) * 40 ≤ 140737488355328 := by omega
  rcases Nat.lt_or_ge k N with hlt | hge
  · have q0 : decide ((k : Int) < N) = true := by simp; omega
    have n2 : IntKind.i64.wrap ((k : Int) + 1) = (k + 1 : Nat) := by rw [w_i64 (by omega) (by omega)]; omega
    rcases hbox with ⟨hk0, t6⟩ | ⟨v, t6, t32⟩
    ·
      simp only [go_sem, seval, eq_self, reduceCtorEq, e0, e1, e6, e7, t6, q0, n2, f1]
      repeat' ((first | (refine AG_of ?_ ?_ <;> intro h) | (refine AB_of ?_ ?_ <;> intro h) | (refine A_draw_of [] [] (by kernel_rfl) ?_ <;> have h := mark)) <;> simp only [go_sem, seval, eq_self, reduceCtorEq, e0, e1, e6, e7, t6, q0, n2, f1, h])
      refine ⟨⟨by simp [upd, e0], by simp [upd, e1], by simp [upd, e6], k + 1, by simp [upd], by omega, .inr ⟨(s.st 32).ver + 1, by simp [upd, hk0], ?_⟩⟩, by simp [upd, numOf, e7]; omega⟩
      subst hk0
      rw [hOs, ← hO]
      simp [upd, addL]
    · rw [hO] at t32
      simp only [go_sem, seval, eq_self, reduceCtorEq, e0, e1, e6, e7, t6, t32, q0, n2, f1, hOl]
      repeat' ((first | (refine AG_of ?_ ?_ <;> intro h) | (refine AB_of ?_ ?_ <;> intro h) | (refine A_draw_of [] [] (by kernel_rfl) ?_ <;> have h := mark)) <;> simp only [go_sem, seval, eq_self, reduceCtorEq, e0, e1, e6, e7, t6, t32, q0, n2, f1, hOl, h])
      refine ⟨⟨by simp [upd, e0], by simp [upd, e1], by simp [upd, e6], k + 1, by simp [upd], by omega, .inr ⟨v + 1, by simp [upd, hOl], ?_⟩⟩, by simp [upd, numOf, e7]; omega⟩
      rw [hOs]
      simp [upd]
  · have hkN : k = N := by omega
    subst hkN
    have q0 : decide ((k : Int) < k) = false := by simp
    rcases hbox with ⟨hk0, _⟩ | ⟨v, t6, t32⟩
    · omega
    rw [hO] at t32
    cases b
    · have hC := str_call (n := k) (h := false) (by omega) (by omega) hO
      have hl : (strP k false).code.length = k := by rw [strP_len]; rfl
      rw [hl] at hC
      simp only [go_sem, seval, eq_self, reduceCtorEq, e0, e1, e6, e7, t6, t32, q0, f1, hOl, hsc, cB6_at, spCut_mv, hC, beq_self_eq_true]
      repeat' ((first | (refine AG_of ?_ ?_ <;> intro h) | (refine AB_of ?_ ?_ <;> intro h) | (refine A_draw_of [] [] (by kernel_rfl) ?_ <;> have h := mark)) <;> simp only [go_sem, seval, eq_self, reduceCtorEq, e0, e1, e6, e7, t6, t32, q0, f1, hOl, hsc, cB6_at, spCut_mv, hC, beq_self_eq_true, h])
      all_goals (first | refine fin_ret ?_ | refine fin_normal ?_)
      all_goals simp only [resOf, Try.results5, Try.ntmps5, go_sem, seval, eq_self, reduceCtorEq]
    · have hO2 : (strP k true).code.map Ins.v = O ++ [.agg [.s (.int .i64 41), .s (.int .i64 0), .s (.int .i64 0), .s (.int .i64 0), .s (.int .i64 0)]] := by
        show (addL k ++ [haltI1]).map Ins.v = _
        rw [List.map_append, hO]; rfl
      have hC := str_call (n := k) (h := true) (by omega) (by omega) hO2
      have hl : (strP k true).code.length = k + 1 := by rw [strP_len]; rfl
      rw [hl] at hC
      simp only [go_sem, seval, eq_self, reduceCtorEq, e0, e1, e6, e7, t6, t32, q0, f1, hOl, hsc, cB6_at, spCut_mv, hC, beq_self_eq_true, List.all_append, List.length_append]
      repeat' ((first | (refine AG_of ?_ ?_ <;> intro h) | (refine AB_of ?_ ?_ <;> intro h) | (refine A_draw_of [] [] (by kernel_rfl) ?_ <;> have h := mark)) <;> simp only [go_sem, seval, eq_self, reduceCtorEq, e0, e1, e6, e7, t6, t32, q0, f1, hOl, hsc, cB6_at, spCut_mv, hC, beq_self_eq_true, List.all_append, List.length_append, h])
      all_goals (first | refine fin_ret ?_ | refine fin_normal ?_)
      all_goals simp only [resOf, Try.results5, Try.ntmps5, go_sem, seval, eq_self, reduceCtorEq]
end Go.Proofs.Ytbmgaebhcomjaaa
