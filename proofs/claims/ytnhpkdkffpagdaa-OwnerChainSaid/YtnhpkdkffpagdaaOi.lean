/-
The laws of chapter 11: OwnerChain. No condition.
-/
import Derived.Test.YtnhpkdkffpagdaaOh
namespace Go.Proofs.Ytnhpkdkffpagdaa
set_option linter.unusedSimpArgs false
set_option linter.unusedVariables false

def chainL (k : Nat) : List Ins := (List.range k).map fun (i : Nat) => ⟨1, (i : Int) + 1 + 1, (i : Int) + 1, (i : Int) + 1, 0⟩
def chainE (n : Int) (load : Bool) : List Ins := [⟨1, 15, 14, n, 0⟩, if load then ⟨26, 14, n, 0, 0⟩ else ⟨31, 0, n, 14, 0⟩]
def chainP (n : Nat) (load : Bool) : Prg := ⟨chainL (n - 1) ++ chainE n load, 0, []⟩
def chainW (n : Nat) : List Int := 0 :: (List.range 15).map fun j => if j + 1 ≤ n then 1 else 2
theorem chain_all : ((List.range 13).all fun j => ofO (chainP (j + 1) true) == chainW (j + 1) && ofO (chainP (j + 1) false) == chainW (j + 1)) = true := by kernel_rfl
theorem chain_of {n : Nat} (h1 : 1 ≤ n) (h2 : n ≤ 13) (load : Bool) : ofO (chainP n load) = chainW n := by
  have := List.all_eq_true.1 chain_all (n - 1) (by simp; omega)
  rw [show n - 1 + 1 = n by omega] at this
  simp only [Bool.and_eq_true, beq_iff_eq] at this
  cases load
  · exact this.2
  · exact this.1
theorem chainW_at {n : Nat} {j : Nat} (h1 : 1 ≤ j) (h2 : j < 16) : (oAt (chainW n) j == 1) = decide ((j : Int) ≤ n) := by
  obtain ⟨i, rfl⟩ : ∃ i, j = i + 1 := ⟨j - 1, by omega⟩
  simp only [oAt, chainW, Int.toNat_natCast, List.getD_eq_getElem?_getD, List.getElem?_cons_succ, List.getElem?_map]
  rw [List.getElem?_range (by omega)]
  simp only [Option.map_some, Option.getD_some]
  by_cases h : i + 1 ≤ n
  · rw [if_pos h]; simp; omega
  · rw [if_neg h]; simp; omega

/-- so many sums stand in the program's box -/
def chI (n : Int) (load : Bool) (s : S) : Prop :=
  s.env 0 = .s (.int .i64 n) ∧ s.env 1 = .s (.bool load) ∧ s.env 6 = .ptr 6 1 0 ∧ s.st 43 = ⟨0, .gone⟩ ∧
  ∃ k : Nat, s.env 7 = .s (.int .i64 (k + 1 : Nat)) ∧ (k : Int) + 1 ≤ n ∧
    ((k = 0 ∧ s.st 6 = ⟨1, .box [.s (.slice none 0 0), .s (.int .i64 0), .s (.slice none 0 0)]⟩) ∨
    ∃ v, s.st 6 = ⟨1, .box [.sw 36 v k, .s (.int .i64 0), .s (.slice none 0 0)]⟩ ∧ s.st 36 = ⟨v, .row 5 28 ((chainL k).map Ins.v)⟩)
def chJ (n : Int) (o : List Int) (v : Nat) (s : S) : Prop := s.env 0 = .s (.int .i64 n) ∧ s.env 8 = .ptr 8 v 0 ∧ s.st 8 = ⟨v, .box (o.map iv)⟩ ∧ ∃ k : Nat, s.env 9 = .s (.int .i64 k) ∧ 1 ≤ k ∧ k ≤ 16
def spChain : Spec := ⟨[], fun xs => match xs with
  | [.s (.int .i64 _), .s (.bool _)] => some (.s (.bool true))
  | _ => none⟩
theorem fits40 {k : Nat} (h : k ≤ 12) : (k + 1) * 40 ≤ 140737488355328 ∧ (k + 1 + 1) * 40 ≤ 140737488355328 ∧ (k + 2) * 40 ≤ 140737488355328 := by
  refine ⟨?_, ?_, ?_⟩ <;> omega
set_option maxHeartbeats 4000000 in
set_option maxRecDepth 8000 in
theorem chain_impl : Impl Try.prog 6 spChain := by
  refine impl_walk mixed cLaw3_ok eqT_ok Try.func6 rfl Try.ntmps6 (by kernel_rfl) ?_
  intro xs r h
  unfold spChain at h
  simp only at h
  (try split at h) <;> try (cases (show none = some r from h); done)
  rename_i n load
  cases h
  refine ⟨by simp, ?_⟩
  by_cases c1 : n < 1
  · have g1 : decide (n < 1) = true := by simp [c1]
    simp only [go_sem, seval, eq_self, reduceCtorEq, cLaw3_at, spTrue_mv, spTrue_fn, g1]
    repeat' ((first | (refine AG_of ?_ ?_ <;> intro h) | (refine AB_of ?_ ?_ <;> intro h) | (refine A_draw_of [] [] (by kernel_rfl) ?_ <;> have h := mark)) <;> simp only [go_sem, seval, eq_self, reduceCtorEq, cLaw3_at, spTrue_mv, spTrue_fn, g1, h])
    all_goals (first | refine fin_ret ?_ | refine fin_normal ?_)
    all_goals simp only [resOf, Try.results6, Try.ntmps6, go_sem, seval, eq_self, reduceCtorEq]
  have g1 : decide (n < 1) = false := by simp; omega
  by_cases c2 : 13 < n
  · have g2 : decide (13 < n) = true := by simp [c2]
    simp only [go_sem, seval, eq_self, reduceCtorEq, cLaw3_at, spTrue_mv, spTrue_fn, g1, g2]
    repeat' ((first | (refine AG_of ?_ ?_ <;> intro h) | (refine AB_of ?_ ?_ <;> intro h) | (refine A_draw_of [] [] (by kernel_rfl) ?_ <;> have h := mark)) <;> simp only [go_sem, seval, eq_self, reduceCtorEq, cLaw3_at, spTrue_mv, spTrue_fn, g1, g2, h])
    all_goals (first | refine fin_ret ?_ | refine fin_normal ?_)
    all_goals simp only [resOf, Try.results6, Try.ntmps6, go_sem, seval, eq_self, reduceCtorEq]
  have g2 : decide (13 < n) = false := by simp; omega
  obtain ⟨N, rfl⟩ : ∃ N : Nat, n = N := ⟨n.toNat, by omega⟩
  simp only [go_sem, seval, eq_self, reduceCtorEq, cLaw3_at, spTrue_mv, spTrue_fn, g1, g2]
  repeat' ((first | (refine AG_of ?_ ?_ <;> intro h) | (refine AB_of ?_ ?_ <;> intro h) | (refine A_draw_of [] [] (by kernel_rfl) ?_ <;> have h := mark)) <;> simp only [go_sem, seval, eq_self, reduceCtorEq, cLaw3_at, spTrue_mv, spTrue_fn, g1, g2, h])
  refine A_loop (chI N load) (fun s => N - (numOf (s.env 7)).toNat) ?_ ?_
  · exact ⟨by simp [upd, init, V.unfr], by simp [upd, init, V.unfr], by simp [upd], by simp [upd, init], 0, by simp [upd], by omega, .inl ⟨rfl, by simp [upd, init]⟩⟩
  intro s hs
  obtain ⟨e0, e1, e6, t43, k, e7, hk, hbox⟩ := hs
  rcases Nat.lt_or_ge (k + 1) N with hlt | hge
  · have q0 : decide (((k + 1 : Nat) : Int) < N) = true := by simp; omega
    have n2 : IntKind.i64.wrap (((k + 1 : Nat) : Int) + 1) = (k + 1 + 1 : Nat) := by rw [w_i64 (by omega) (by omega)]; omega
    have f1 : (k + 1) * 40 ≤ 140737488355328 := by omega
    have hlk : ((chainL k).map Ins.v).length = k := by simp [chainL]
    have hsn : (chainL (k + 1)).map Ins.v = (chainL k).map Ins.v ++ [.agg [.s (.int .i64 1), .s (.int .i64 (k + 1 + 1 : Nat)), .s (.int .i64 (k + 1 : Nat)), .s (.int .i64 (k + 1 : Nat)), .s (.int .i64 0)]] := by
      simp [chainL, List.range_succ, Ins.v]
    rcases hbox with ⟨hk0, t6⟩ | ⟨v, t6, t36⟩
    ·
      simp only [go_sem, seval, eq_self, reduceCtorEq, e0, e1, e6, e7, t6, q0, n2, f1]
      repeat' ((first | (refine AG_of ?_ ?_ <;> intro h) | (refine AB_of ?_ ?_ <;> intro h) | (refine A_draw_of [] [] (by kernel_rfl) ?_ <;> have h := mark)) <;> simp only [go_sem, seval, eq_self, reduceCtorEq, e0, e1, e6, e7, t6, q0, n2, f1, h])
      refine ⟨⟨by simp [upd, e0], by simp [upd, e1], by simp [upd, e6], by simp [upd, t43], k + 1, by simp [upd], by omega, .inr ⟨(s.st 36).ver + 1, by simp [upd, hk0], ?_⟩⟩, by simp [upd, numOf, e7]; omega⟩
      rw [hsn]
      subst hk0
      simp [upd, chainL]
    ·
      obtain ⟨lv, hlv⟩ : ∃ lv, (chainL k).map Ins.v = lv := ⟨_, rfl⟩
      rw [hlv] at hlk hsn t36
      simp only [go_sem, seval, eq_self, reduceCtorEq, e0, e1, e6, e7, t6, t36, q0, n2, f1, hlk]
      repeat' ((first | (refine AG_of ?_ ?_ <;> intro h) | (refine AB_of ?_ ?_ <;> intro h) | (refine A_draw_of [] [] (by kernel_rfl) ?_ <;> have h := mark)) <;> simp only [go_sem, seval, eq_self, reduceCtorEq, e0, e1, e6, e7, t6, t36, q0, n2, f1, hlk, h])
      refine ⟨⟨by simp [upd, e0], by simp [upd, e1], by simp [upd, e6], by simp [upd, t43], k + 1, by simp [upd], by omega, .inr ⟨v + 1, by simp [upd], ?_⟩⟩, by simp [upd, numOf, e7]; omega⟩
      rw [hsn]
      simp [upd]
  · have hkN : N = k + 1 := by omega
    have q0 : decide (((k + 1 : Nat) : Int) < N) = false := by simp; omega
    have kk : k ≤ 12 := by omega
    obtain ⟨f1, f2, f3⟩ := fits40 kk
    have hof := chain_of (n := N) (by omega) (by omega) load
    have hW := fun (j : Nat) (h1 : 1 ≤ j) (h2 : j < 16) => chainW_at (n := N) h1 h2
    obtain ⟨lv, hlv⟩ : ∃ lv, (chainL k).map Ins.v = lv := ⟨_, rfl⟩
    have hlk : lv.length = k := by rw [← hlv]; simp [chainL]
    have hwl : (chainW N).length = 16 := by simp [chainW]
    have hO : spOf.fn [.agg [.lst false 5 (lv ++ (chainE N load).map Ins.v), .s (.int .i64 0), .s (.slice none 0 0)]] = some (.agg ((chainW N).map iv)) := by
      have h1 : prgOf (.agg [.lst false 5 (lv ++ (chainE N load).map Ins.v), .s (.int .i64 0), .s (.slice none 0 0)]) = some (chainP N load) := by
        rw [← hlv, ← List.map_append]
        have hm := mapM_of (f := insOf) (g := Ins.v) (fun _ => rfl) (chainL k ++ chainE N load)
        simp only [prgOf, lOf, if_true, Option.bind_some, hm]
        unfold chainP
        rw [show N - 1 = k by omega]
        rfl
      simp only [spOf, h1, Option.bind_some, hof]
      rw [if_pos (by unfold chainP; simp [chainL, chainE]; omega)]; rfl
    obtain ⟨o, hoe⟩ : ∃ o, chainW N = o := ⟨_, rfl⟩
    rw [hoe] at hO hwl
    simp only [hoe] at hW
    have ht := take_iv hwl
    have hdo := drop_all hwl
    rcases hbox with ⟨hk0, t6⟩ | ⟨v, t6, t36⟩
    · obtain rfl : lv = [] := List.length_eq_zero_iff.1 (by omega)
      cases load
      all_goals
        simp only [chainE, List.map_cons, List.map_nil, List.nil_append, Ins.v, if_true, if_false, Bool.false_eq_true] at hO
        simp only [go_sem, seval, eq_self, reduceCtorEq, e0, e1, e6, e7, t6, q0, f1, f2, f3, spOf_mv, cLaw3_at, hO, ht, hdo, hwl, List.length_map]
        repeat' ((first | (refine AG_of ?_ ?_ <;> intro h) | (refine AB_of ?_ ?_ <;> intro h) | (refine A_draw_of [] [] (by kernel_rfl) ?_ <;> have h := mark)) <;> simp only [go_sem, seval, eq_self, reduceCtorEq, e0, e1, e6, e7, t6, q0, f1, f2, f3, spOf_mv, cLaw3_at, hO, ht, hdo, hwl, List.length_map, h])
        refine A_loop (chJ N o ((s.st 8).ver + 1)) (fun s => 17 - (numOf (s.env 9)).toNat) ?_ ?_
        · exact ⟨by simp [upd, e0], by simp [upd], by simp [upd], 1, by simp [upd], by omega, by omega⟩
        intro s' hs'
        obtain ⟨a0, a8, b8, j, a9, hj1, hj⟩ := hs'
        rcases Nat.lt_or_ge j 16 with hlt | hge2
        · have r0 : decide ((j : Int) < 16) = true := by simp; omega
          have z0 := Int.natCast_nonneg j
          have z1 : (j : Int) < 16 := by omega
          have m2 : IntKind.i64.wrap ((j : Int) + 1) = (j + 1 : Nat) := by rw [w_i64 (by omega) (by omega)]; omega
          have hd1 := drop_iv (o := o) (k := j) (by omega)
          have hq := hW j hj1 hlt
          simp only [go_sem, seval, eq_self, reduceCtorEq, a0, a8, b8, a9, r0, z0, z1, m2, hd1, hq, hwl, List.length_map, Int.toNat_natCast, Nat.mul_one, Nat.zero_add, bne_self_eq_false]
          repeat' ((first | (refine AG_of ?_ ?_ <;> intro h) | (refine AB_of ?_ ?_ <;> intro h) | (refine A_draw_of [] [] (by kernel_rfl) ?_ <;> have h := mark)) <;> simp only [go_sem, seval, eq_self, reduceCtorEq, a0, a8, b8, a9, r0, z0, z1, m2, hd1, hq, hwl, List.length_map, Int.toNat_natCast, Nat.mul_one, Nat.zero_add, bne_self_eq_false, h])
          exact ⟨⟨by simp [upd, a0], by simp [upd, a8], by simp [upd, b8], j + 1, by simp [upd], by omega, by omega⟩, by simp [upd, numOf, a9]; omega⟩
        · have r0 : decide ((j : Int) < 16) = false := by simp; omega
          simp only [go_sem, seval, eq_self, reduceCtorEq, a0, a8, b8, a9, r0]
          repeat' ((first | (refine AG_of ?_ ?_ <;> intro h) | (refine AB_of ?_ ?_ <;> intro h) | (refine A_draw_of [] [] (by kernel_rfl) ?_ <;> have h := mark)) <;> simp only [go_sem, seval, eq_self, reduceCtorEq, a0, a8, b8, a9, r0, h])
          all_goals (first | refine fin_ret ?_ | refine fin_normal ?_)
          all_goals simp only [resOf, Try.results6, Try.ntmps6, go_sem, seval, eq_self, reduceCtorEq]
    · cases load
      all_goals
        simp only [chainE, List.map_cons, List.map_nil, Ins.v, if_true, if_false, Bool.false_eq_true] at hO
        simp only [go_sem, seval, eq_self, reduceCtorEq, e0, e1, e6, e7, t6, t36, q0, f1, f2, f3, hlk, hlv, List.length_append, spOf_mv, cLaw3_at, hO, ht, hdo, hwl, List.length_map]
        repeat' ((first | (refine AG_of ?_ ?_ <;> intro h) | (refine AB_of ?_ ?_ <;> intro h) | (refine A_draw_of [] [] (by kernel_rfl) ?_ <;> have h := mark)) <;> simp only [go_sem, seval, eq_self, reduceCtorEq, e0, e1, e6, e7, t6, t36, q0, f1, f2, f3, hlk, hlv, List.length_append, spOf_mv, cLaw3_at, hO, ht, hdo, hwl, List.length_map, h])
        refine A_loop (chJ N o ((s.st 8).ver + 1)) (fun s => 17 - (numOf (s.env 9)).toNat) ?_ ?_
        · exact ⟨by simp [upd, e0], by simp [upd], by simp [upd], 1, by simp [upd], by omega, by omega⟩
        intro s' hs'
        obtain ⟨a0, a8, b8, j, a9, hj1, hj⟩ := hs'
        rcases Nat.lt_or_ge j 16 with hlt | hge2
        · have r0 : decide ((j : Int) < 16) = true := by simp; omega
          have z0 := Int.natCast_nonneg j
          have z1 : (j : Int) < 16 := by omega
          have m2 : IntKind.i64.wrap ((j : Int) + 1) = (j + 1 : Nat) := by rw [w_i64 (by omega) (by omega)]; omega
          have hd1 := drop_iv (o := o) (k := j) (by omega)
          have hq := hW j hj1 hlt
          simp only [go_sem, seval, eq_self, reduceCtorEq, a0, a8, b8, a9, r0, z0, z1, m2, hd1, hq, hwl, List.length_map, Int.toNat_natCast, Nat.mul_one, Nat.zero_add, bne_self_eq_false]
          repeat' ((first | (refine AG_of ?_ ?_ <;> intro h) | (refine AB_of ?_ ?_ <;> intro h) | (refine A_draw_of [] [] (by kernel_rfl) ?_ <;> have h := mark)) <;> simp only [go_sem, seval, eq_self, reduceCtorEq, a0, a8, b8, a9, r0, z0, z1, m2, hd1, hq, hwl, List.length_map, Int.toNat_natCast, Nat.mul_one, Nat.zero_add, bne_self_eq_false, h])
          exact ⟨⟨by simp [upd, a0], by simp [upd, a8], by simp [upd, b8], j + 1, by simp [upd], by omega, by omega⟩, by simp [upd, numOf, a9]; omega⟩
        · have r0 : decide ((j : Int) < 16) = false := by simp; omega
          simp only [go_sem, seval, eq_self, reduceCtorEq, a0, a8, b8, a9, r0]
          repeat' ((first | (refine AG_of ?_ ?_ <;> intro h) | (refine AB_of ?_ ?_ <;> intro h) | (refine A_draw_of [] [] (by kernel_rfl) ?_ <;> have h := mark)) <;> simp only [go_sem, seval, eq_self, reduceCtorEq, a0, a8, b8, a9, r0, h])
          all_goals (first | refine fin_ret ?_ | refine fin_normal ?_)
          all_goals simp only [resOf, Try.results6, Try.ntmps6, go_sem, seval, eq_self, reduceCtorEq]
end Go.Proofs.Ytnhpkdkffpagdaa
