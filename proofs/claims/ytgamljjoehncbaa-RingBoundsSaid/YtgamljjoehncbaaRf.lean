/-
RingOrder. No condition.
-/
import Derived.Test.YtgamljjoehncbaaRe
namespace Go.Proofs.Ytgamljjoehncbaa
set_option linter.unusedSimpArgs false
set_option linter.unusedVariables false

def spRAll0 : Spec := ⟨[], fun xs => (spRAll.fn xs).map (asLst0 1)⟩
theorem spRAll0_mv : spRAll0.mv = [] := rfl
theorem asLst0_own (l : List Int) : asLst0 1 (ownOr 22 (l.map uv)) = .lst true 1 (l.map uv) := by cases l <;> rfl
theorem que_all0 {sl : List (Option Int)} {f n : Int} {l : List Int} (h : Que sl f n l) : spRAll0.fn [.ept [.lst false 1 (sl.map slotV), .s (.int .i64 f), .s (.int .i64 n)]] = some (.lst true 1 (l.map uv)) := by
  simp only [spRAll0, que_all h, Option.map_some, asLst0_own]
def cR5 : Orc := upd cR4 29 (some spRAll0)
theorem cR5_ok : ∀ g sp, cR5 g = some sp → Impl Try.prog g sp := orc_upd cR4_ok (impl_lst0 1 rall_impl)
theorem cR5_at : cR5 28 = some spSameW ∧ cR5 19 = some spTrue ∧ cR5 20 = some spRNew ∧ cR5 26 = some spRRoom ∧ cR5 22 = some spRPush ∧ cR5 24 = some spRPop ∧ cR5 29 = some spRAll0 := ⟨rfl, rfl, rfl, rfl, rfl, rfl, rfl⟩
def ordI (N tn : Int) (w : List Int) (s : S) : Prop :=
  s.env 0 = .s (.int .i64 N) ∧ s.env 1 = .lst false 1 (w.map uv) ∧ s.env 2 = .s (.int .i64 tn) ∧ s.env 8 = .ptr 40 1 0 ∧
  ∃ sl f n q v out, ∃ i k : Nat, Que sl f n q ∧ (sl.length : Int) = N ∧ s.st 40 = ⟨1, .box [.sw 41000 v sl.length, .s (.int .i64 f), .s (.int .i64 n)]⟩ ∧ s.st 41000 = ⟨v, .row 1 20 (sl.map slotV)⟩ ∧
    s.env 10 = .s (.int .i64 i) ∧ i ≤ w.length ∧ RowW (s.env 9) 60 (s.st 60) out ∧ out ++ q = w.take i ∧ s.env 11 = .s (.int .i64 k) ∧ k ≤ 700
def spOrder : Spec := ⟨[], fun xs => match xs with
  | [.s (.int .i64 _), y, .s (.int .i64 _)] => (lOf 1 y).bind fun m => (m.mapM u32Of).bind fun _ => some (.s (.bool true))
  | _ => none⟩
set_option maxHeartbeats 16000000 in
set_option maxRecDepth 8000 in
theorem order_impl : Impl Try.prog 8 spOrder := by
  refine impl_walk2 mixed cR5_ok eqT_ok Try.func8 rfl Try.ntmps8 (by kernel_rfl) ?_
  intro xs r h
  unfold spOrder at h
  simp only at h
  (try split at h) <;> try (cases (show none = some r from h); done)
  rename_i N y tn
  obtain ⟨m, hm, h5⟩ := Option.bind_eq_some_iff.1 h
  obtain ⟨w, hw, h6⟩ := Option.bind_eq_some_iff.1 h5
  clear h h5
  have e2 := mapM_eq (fun _ _ => u32Of_eq) hw
  subst e2
  cases h6
  refine ⟨_, (SeesL.cons .same (.cons (lOf_sees hm) .same)).args, by simp, ?_⟩
  by_cases c0 : N < 1
  · have g0 : decide (N < 1) = true := by simp; omega
    simp only [go_sem, seval, eq_self, reduceCtorEq, cR5_at, spTrue_mv, spTrue_fn, g0, List.length_map]
    repeat' ((first | (refine AG_of ?_ ?_ <;> intro h) | (refine AB_of ?_ ?_ <;> intro h) | (refine A_draw_of [] [] (by kernel_rfl) ?_ <;> have h := mark)) <;> simp only [go_sem, seval, eq_self, reduceCtorEq, cR5_at, spTrue_mv, spTrue_fn, g0, List.length_map, h])
    all_goals (first | refine fin_ret ?_ | refine fin_normal ?_)
    all_goals simp only [resOf, Try.results8, Try.ntmps8, go_sem, seval, eq_self, reduceCtorEq]
  have g0 : decide (N < 1) = false := by simp; omega
  by_cases c1 : 64 < N
  · have g1 : decide (64 < N) = true := by simp; omega
    simp only [go_sem, seval, eq_self, reduceCtorEq, cR5_at, spTrue_mv, spTrue_fn, g0, g1, List.length_map]
    repeat' ((first | (refine AG_of ?_ ?_ <;> intro h) | (refine AB_of ?_ ?_ <;> intro h) | (refine A_draw_of [] [] (by kernel_rfl) ?_ <;> have h := mark)) <;> simp only [go_sem, seval, eq_self, reduceCtorEq, cR5_at, spTrue_mv, spTrue_fn, g0, g1, List.length_map, h])
    all_goals (first | refine fin_ret ?_ | refine fin_normal ?_)
    all_goals simp only [resOf, Try.results8, Try.ntmps8, go_sem, seval, eq_self, reduceCtorEq]
  have g1 : decide (64 < N) = false := by simp; omega
  by_cases c2 : 300 < w.length
  · have g2 : decide (300 < (w.length : Int)) = true := by simp; omega
    simp only [go_sem, seval, eq_self, reduceCtorEq, cR5_at, spTrue_mv, spTrue_fn, g0, g1, g2, List.length_map]
    repeat' ((first | (refine AG_of ?_ ?_ <;> intro h) | (refine AB_of ?_ ?_ <;> intro h) | (refine A_draw_of [] [] (by kernel_rfl) ?_ <;> have h := mark)) <;> simp only [go_sem, seval, eq_self, reduceCtorEq, cR5_at, spTrue_mv, spTrue_fn, g0, g1, g2, List.length_map, h])
    all_goals (first | refine fin_ret ?_ | refine fin_normal ?_)
    all_goals simp only [resOf, Try.results8, Try.ntmps8, go_sem, seval, eq_self, reduceCtorEq]
  have g2 : decide (300 < (w.length : Int)) = false := by simp; omega
  by_cases c3 : tn < 1
  · have g3 : decide (tn < 1) = true := by simp; omega
    simp only [go_sem, seval, eq_self, reduceCtorEq, cR5_at, spTrue_mv, spTrue_fn, g0, g1, g2, g3, List.length_map]
    repeat' ((first | (refine AG_of ?_ ?_ <;> intro h) | (refine AB_of ?_ ?_ <;> intro h) | (refine A_draw_of [] [] (by kernel_rfl) ?_ <;> have h := mark)) <;> simp only [go_sem, seval, eq_self, reduceCtorEq, cR5_at, spTrue_mv, spTrue_fn, g0, g1, g2, g3, List.length_map, h])
    all_goals (first | refine fin_ret ?_ | refine fin_normal ?_)
    all_goals simp only [resOf, Try.results8, Try.ntmps8, go_sem, seval, eq_self, reduceCtorEq]
  have g3 : decide (tn < 1) = false := by simp; omega
  by_cases c4 : 10 < tn
  · have g4 : decide (10 < tn) = true := by simp; omega
    simp only [go_sem, seval, eq_self, reduceCtorEq, cR5_at, spTrue_mv, spTrue_fn, g0, g1, g2, g3, g4, List.length_map]
    repeat' ((first | (refine AG_of ?_ ?_ <;> intro h) | (refine AB_of ?_ ?_ <;> intro h) | (refine A_draw_of [] [] (by kernel_rfl) ?_ <;> have h := mark)) <;> simp only [go_sem, seval, eq_self, reduceCtorEq, cR5_at, spTrue_mv, spTrue_fn, g0, g1, g2, g3, g4, List.length_map, h])
    all_goals (first | refine fin_ret ?_ | refine fin_normal ?_)
    all_goals simp only [resOf, Try.results8, Try.ntmps8, go_sem, seval, eq_self, reduceCtorEq]
  have g4 : decide (10 < tn) = false := by simp; omega
  obtain ⟨sl0, hN, hq0, hc0⟩ := que_new N
  have hcN : capN N = N := by unfold capN; rw [if_neg c0, if_neg c1]
  rw [hcN] at hc0
  simp only [go_sem, seval, eq_self, reduceCtorEq, cR5_at, spTrue_mv, spTrue_fn, g0, g1, g2, g3, g4, spRNew_mv, hN, nest, List.length_map]
  repeat' ((first | (refine AG_of ?_ ?_ <;> intro h) | (refine AB_of ?_ ?_ <;> intro h) | (refine A_draw_of [] [] (by kernel_rfl) ?_ <;> have h := mark)) <;> simp only [go_sem, seval, eq_self, reduceCtorEq, cR5_at, spTrue_mv, spTrue_fn, g0, g1, g2, g3, g4, spRNew_mv, hN, nest, List.length_map, h])
  refine A_loop (ordI N tn w) (fun s => 700 - (numOf (s.env 11)).toNat) ?_ ?_
  · exact ⟨by simp [upd, init, V.unfr], by simp [upd, init, V.unfr], by simp [upd, init, V.unfr], by simp [upd, init], sl0, 0, 0, [], 1, [], 0, 0, hq0, hc0, by simp [upd, init], by simp [upd, init], by simp [upd], by omega, .inl ⟨rfl, by simp [upd]⟩, rfl, by simp [upd], by omega⟩
  intro s hs
  obtain ⟨e0, e1, e2, e8, sl, f, n, q, v, out, i, k, hq, hsl, t40, t41, e10, hi, hr, hoq, e11, hk⟩ := hs
  have hsc := scal_slots sl
  have hqlen := hq.le
  have hlen : out.length + q.length = i := by
    have := congrArg List.length hoq
    rw [List.length_append, List.length_take] at this
    omega
  rcases Nat.lt_or_ge k 700 with hlt | hge
  case inr =>
    have f0 : decide ((k : Int) < 700) = false := by simp; omega
    have hA := que_all0 hq
    have z0 := Int.natCast_nonneg i
    have z1 : (i : Int) ≤ w.length := by omega
    have hoq2 : out.map uv ++ q.map uv = (w.map uv).take i := by rw [← List.map_append, hoq, List.map_take]
    have hSm := same_v (a := w.take i) (by rw [List.length_take]; omega) (x := .lst false 1 (out.map uv ++ q.map uv)) (y := .lst false 1 ((w.map uv).take i)) (by rw [hoq2, List.map_take]; rfl) (by rw [List.map_take]; rfl)
    have hsq := scal_uv q
    have hso := scal_uv out
    obtain ⟨lq, hlq⟩ : ∃ lq, q.map uv = lq := ⟨_, rfl⟩
    have hlql : lq.length = q.length := by rw [← hlq, List.length_map]
    rw [hlq] at hA hSm hsq
    rcases hr with ⟨hl0, hx⟩ | ⟨hl0, v2, hx, hb⟩
    · subst hl0
      have fl : q.length * 4 ≤ 140737488355328 := by omega
      simp only [List.map_nil, List.nil_append] at hSm
      simp only [go_sem, seval, eq_self, reduceCtorEq, e0, e1, e2, e8, t40, t41, e10, e11, f0, hx, hA, hsc, cR5_at, spRAll0_mv, List.length_map]
      repeat' ((first | (refine AG_of ?_ ?_ <;> intro h) | (refine AB_of ?_ ?_ <;> intro h)) <;> simp only [go_sem, seval, eq_self, reduceCtorEq, e0, e1, e2, e8, t40, t41, e10, e11, f0, hx, hA, hsc, cR5_at, spRAll0_mv, List.length_map, h])
      refine A_draw_of [95] [94, 95, 99] (by kernel_rfl) ?_
      simp only [go_sem, seval, eq_self, reduceCtorEq, e0, e1, e2, e8, t40, t41, e10, e11, z0, z1, hx, hA, hSm, hsc, hsq, fl, hlql, cR5_at, spRAll0_mv, spSameW_mv, Int.toNat_natCast, List.length_map]
      repeat' ((first | (refine AG_of ?_ ?_ <;> intro h) | (refine AB_of ?_ ?_ <;> intro h)) <;> simp only [go_sem, seval, eq_self, reduceCtorEq, e0, e1, e2, e8, t40, t41, e10, e11, z0, z1, hx, hA, hSm, hsc, hsq, fl, hlql, cR5_at, spRAll0_mv, spSameW_mv, Int.toNat_natCast, List.length_map, h])
      all_goals (first | refine fin_ret ?_ | refine fin_normal ?_)
      all_goals simp only [resOf, Try.results8, Try.ntmps8, go_sem, seval, eq_self, reduceCtorEq]
    · have fl : (out.length + q.length) * 4 ≤ 140737488355328 := by omega
      obtain ⟨lo, hlo⟩ : ∃ lo, out.map uv = lo := ⟨_, rfl⟩
      have hlol : lo.length = out.length := by rw [← hlo, List.length_map]
      rw [hlo] at hSm hso hb
      simp only [go_sem, seval, eq_self, reduceCtorEq, e0, e1, e2, e8, t40, t41, e10, e11, f0, hx, hb, hA, hsc, cR5_at, spRAll0_mv, List.length_map]
      repeat' ((first | (refine AG_of ?_ ?_ <;> intro h) | (refine AB_of ?_ ?_ <;> intro h)) <;> simp only [go_sem, seval, eq_self, reduceCtorEq, e0, e1, e2, e8, t40, t41, e10, e11, f0, hx, hb, hA, hsc, cR5_at, spRAll0_mv, List.length_map, h])
      refine A_draw_of [60] [94, 95, 99] (by kernel_rfl) ?_
      simp only [go_sem, seval, eq_self, reduceCtorEq, e0, e1, e2, e8, t40, t41, e10, e11, z0, z1, hx, hb, hA, hSm, hsc, hsq, hso, fl, hlql, hlol, cR5_at, spRAll0_mv, spSameW_mv, Int.toNat_natCast, List.length_map]
      repeat' ((first | (refine AG_of ?_ ?_ <;> intro h) | (refine AB_of ?_ ?_ <;> intro h)) <;> simp only [go_sem, seval, eq_self, reduceCtorEq, e0, e1, e2, e8, t40, t41, e10, e11, z0, z1, hx, hb, hA, hSm, hsc, hsq, hso, fl, hlql, hlol, cR5_at, spRAll0_mv, spSameW_mv, Int.toNat_natCast, List.length_map, h])
      all_goals (first | refine fin_ret ?_ | refine fin_normal ?_)
      all_goals simp only [resOf, Try.results8, Try.ntmps8, go_sem, seval, eq_self, reduceCtorEq]
  have f0 : decide ((k : Int) < 700) = true := by simp; omega
  have n2 : IntKind.i64.wrap ((k : Int) + 1) = (k + 1 : Nat) := by rw [w_i64 (by omega) (by omega)]; omega
  have n3 : IntKind.i64.wrap ((i : Int) + 1) = (i + 1 : Nat) := by rw [w_i64 (by omega) (by omega)]; omega
  have hz := Int.natCast_nonneg i
  have ht0 : ¬ tn = 0 := by omega
  cases hbt : (Int.tmod (k : Int) tn == 0)
  · have hq' := hq
    have hoq' := hoq
    have hsc2 := hsc
    rcases hr with ⟨hl0, hx⟩ | ⟨hl0, v2, hx, hb⟩
    · subst hl0
      (try simp only [List.length_nil] at hlen)
      rcases Nat.lt_or_ge i w.length with hiw | hiw
      · obtain ⟨u, qu⟩ : ∃ x, w[i]? = some x := ⟨w[i], List.getElem?_eq_getElem hiw⟩
        have gi : decide ((i : Int) < w.length) = true := by simp; omega
        by_cases hfull : (q).length < (sl).length
        · obtain ⟨sl3, hP3, hq3, hl3⟩ := que_push hq' hfull u
          have hR := que_room hq3
          have hoq3 : ([] : List Int) ++ (q ++ [u]) = w.take (i + 1) := by rw [← List.append_assoc, hoq', List.take_add_one, qu]; rfl
          have hle3 := hq3.le
          have hlen3 : (([] : List Int)).length + (q ++ [u]).length = i + 1 := by simp at hlen ⊢; omega
          obtain ⟨Q, hQ⟩ : ∃ Q, q ++ [u] = Q := ⟨_, rfl⟩
          rw [hQ] at hq3 hR hoq3 hle3 hlen3
          (try simp only [List.length_append, List.length_cons, List.length_nil] at hlen3)
          have w1 : IntKind.i64.wrap (((i + 1 : Nat) : Int) - 0) = (Q.length : Nat) := by rw [w_i64 (by omega) (by omega)]; omega
          have w3 : IntKind.i64.wrap (((Q.length : Nat) : Int) + ((sl3.length : Int) - Q.length)) = N := by rw [w_i64 (by omega) (by omega)]; omega
          rw [hl3] at hR w3
          have gn : decide (N < ((Q.length : Nat) : Int)) = false := by simp; omega
          simp only [go_sem, seval, eq_self, reduceCtorEq, e0, e1, e2, e8, t40, t41, e10, e11, f0, n2, n3, hz, ht0, hsc, hbt, cR5_at, spRPush_mv, spRPop_mv, spRRoom_mv, nest, uv, Int.toNat_natCast, List.getElem?_map, List.length_map, bne_self_eq_false, hx, hsc2, qu, gi, hP3, hR, hl3, w1, w3, gn]
          repeat' ((first | (refine AG_of ?_ ?_ <;> intro h) | (refine AB_of ?_ ?_ <;> intro h)) <;> simp only [go_sem, seval, eq_self, reduceCtorEq, e0, e1, e2, e8, t40, t41, e10, e11, f0, n2, n3, hz, ht0, hsc, hbt, cR5_at, spRPush_mv, spRPop_mv, spRRoom_mv, nest, uv, Int.toNat_natCast, List.getElem?_map, List.length_map, bne_self_eq_false, hx, hsc2, qu, gi, hP3, hR, hl3, w1, w3, gn, h])
          exact ⟨⟨by simp [upd, e0], by simp [upd, e1, uv], by simp [upd, e2], by simp [upd, e8], sl3, f, n + 1, Q, v + 1, ([] : List Int), i + 1, k + 1, hq3, by omega, by simp [upd, hl3], by simp [upd], by simp [upd], by omega, .inl ⟨rfl, by simp [upd, hx]⟩, hoq3, by simp [upd], by omega⟩, by simp [upd, numOf, e11]; omega⟩
        · have hP3 := que_full hq' hfull u
          have hR := que_room hq'
          have hle3 := hq'.le
          have w1 : IntKind.i64.wrap ((i : Int) - 0) = ((q).length : Nat) := by (try simp only [List.length_nil] at *); rw [w_i64 (by omega) (by omega)]; omega
          have w3 : IntKind.i64.wrap ((((q).length : Nat) : Int) + (((sl).length : Int) - (q).length)) = N := by rw [w_i64 (by omega) (by omega)]; omega
          have gn : decide (N < (((q).length : Nat) : Int)) = false := by rw [decide_eq_false_iff_not]; omega
          obtain ⟨L, hL⟩ : ∃ L, (((q).length : Nat) : Int) = L := ⟨_, rfl⟩
          rw [hL] at w1 w3 gn hR
          simp only [go_sem, seval, eq_self, reduceCtorEq, e0, e1, e2, e8, t40, t41, e10, e11, f0, n2, n3, hz, ht0, hsc, hbt, cR5_at, spRPush_mv, spRPop_mv, spRRoom_mv, nest, uv, Int.toNat_natCast, List.getElem?_map, List.length_map, bne_self_eq_false, hx, hsc2, qu, gi, hP3, hR, w1, w3, gn]
          repeat' ((first | (refine AG_of ?_ ?_ <;> intro h) | (refine AB_of ?_ ?_ <;> intro h)) <;> simp only [go_sem, seval, eq_self, reduceCtorEq, e0, e1, e2, e8, t40, t41, e10, e11, f0, n2, n3, hz, ht0, hsc, hbt, cR5_at, spRPush_mv, spRPop_mv, spRRoom_mv, nest, uv, Int.toNat_natCast, List.getElem?_map, List.length_map, bne_self_eq_false, hx, hsc2, qu, gi, hP3, hR, w1, w3, gn, h])
          exact ⟨⟨by simp [upd, e0], by simp [upd, e1, uv], by simp [upd, e2], by simp [upd, e8], sl, f, n, q, v + 1, ([] : List Int), i, k + 1, hq', by omega, by simp [upd], by simp [upd], by simp [upd, e10], by omega, .inl ⟨rfl, by simp [upd, hx]⟩, hoq', by simp [upd], by omega⟩, by simp [upd, numOf, e11]; omega⟩
      · have gi : decide ((i : Int) < w.length) = false := by simp; omega
        have hR := que_room hq'
        have hle3 := hq'.le
        have w1 : IntKind.i64.wrap ((i : Int) - 0) = ((q).length : Nat) := by (try simp only [List.length_nil] at *); rw [w_i64 (by omega) (by omega)]; omega
        have w3 : IntKind.i64.wrap ((((q).length : Nat) : Int) + (((sl).length : Int) - (q).length)) = N := by rw [w_i64 (by omega) (by omega)]; omega
        have gn : decide (N < (((q).length : Nat) : Int)) = false := by rw [decide_eq_false_iff_not]; omega
        obtain ⟨L, hL⟩ : ∃ L, (((q).length : Nat) : Int) = L := ⟨_, rfl⟩
        rw [hL] at w1 w3 gn hR
        simp only [go_sem, seval, eq_self, reduceCtorEq, e0, e1, e2, e8, t40, t41, e10, e11, f0, n2, n3, hz, ht0, hsc, hbt, cR5_at, spRPush_mv, spRPop_mv, spRRoom_mv, nest, uv, Int.toNat_natCast, List.getElem?_map, List.length_map, bne_self_eq_false, hx, hsc2, gi, hR, w1, w3, gn]
        repeat' ((first | (refine AG_of ?_ ?_ <;> intro h) | (refine AB_of ?_ ?_ <;> intro h)) <;> simp only [go_sem, seval, eq_self, reduceCtorEq, e0, e1, e2, e8, t40, t41, e10, e11, f0, n2, n3, hz, ht0, hsc, hbt, cR5_at, spRPush_mv, spRPop_mv, spRRoom_mv, nest, uv, Int.toNat_natCast, List.getElem?_map, List.length_map, bne_self_eq_false, hx, hsc2, gi, hR, w1, w3, gn, h])
        exact ⟨⟨by simp [upd, e0], by simp [upd, e1], by simp [upd, e2], by simp [upd, e8], sl, f, n, q, v, ([] : List Int), i, k + 1, hq', by omega, by simp [upd, t40], by simp [upd, t41], by simp [upd, e10], by omega, .inl ⟨rfl, by simp [upd, hx]⟩, hoq', by simp [upd], by omega⟩, by simp [upd, numOf, e11]; omega⟩
    ·
      rcases Nat.lt_or_ge i w.length with hiw | hiw
      · obtain ⟨u, qu⟩ : ∃ x, w[i]? = some x := ⟨w[i], List.getElem?_eq_getElem hiw⟩
        have gi : decide ((i : Int) < w.length) = true := by simp; omega
        by_cases hfull : (q).length < (sl).length
        · obtain ⟨sl3, hP3, hq3, hl3⟩ := que_push hq' hfull u
          have hR := que_room hq3
          have hoq3 : out ++ (q ++ [u]) = w.take (i + 1) := by rw [← List.append_assoc, hoq', List.take_add_one, qu]; rfl
          have hle3 := hq3.le
          have hlen3 : (out).length + (q ++ [u]).length = i + 1 := by simp at hlen ⊢; omega
          obtain ⟨Q, hQ⟩ : ∃ Q, q ++ [u] = Q := ⟨_, rfl⟩
          rw [hQ] at hq3 hR hoq3 hle3 hlen3
          (try simp only [List.length_append, List.length_cons, List.length_nil] at hlen3)
          have w1 : IntKind.i64.wrap (((i + 1 : Nat) : Int) - (out.length : Nat)) = (Q.length : Nat) := by rw [w_i64 (by omega) (by omega)]; omega
          have w3 : IntKind.i64.wrap (((Q.length : Nat) : Int) + ((sl3.length : Int) - Q.length)) = N := by rw [w_i64 (by omega) (by omega)]; omega
          rw [hl3] at hR w3
          have gn : decide (N < ((Q.length : Nat) : Int)) = false := by simp; omega
          simp only [go_sem, seval, eq_self, reduceCtorEq, e0, e1, e2, e8, t40, t41, e10, e11, f0, n2, n3, hz, ht0, hsc, hbt, cR5_at, spRPush_mv, spRPop_mv, spRRoom_mv, nest, uv, Int.toNat_natCast, List.getElem?_map, List.length_map, bne_self_eq_false, hx, hb, hsc2, qu, gi, hP3, hR, hl3, w1, w3, gn]
          repeat' ((first | (refine AG_of ?_ ?_ <;> intro h) | (refine AB_of ?_ ?_ <;> intro h)) <;> simp only [go_sem, seval, eq_self, reduceCtorEq, e0, e1, e2, e8, t40, t41, e10, e11, f0, n2, n3, hz, ht0, hsc, hbt, cR5_at, spRPush_mv, spRPop_mv, spRRoom_mv, nest, uv, Int.toNat_natCast, List.getElem?_map, List.length_map, bne_self_eq_false, hx, hb, hsc2, qu, gi, hP3, hR, hl3, w1, w3, gn, h])
          exact ⟨⟨by simp [upd, e0], by simp [upd, e1, uv], by simp [upd, e2], by simp [upd, e8], sl3, f, n + 1, Q, v + 1, out, i + 1, k + 1, hq3, by omega, by simp [upd, hl3], by simp [upd], by simp [upd], by omega, .inr ⟨hl0, v2, by simp [upd, hx], by simp [upd, hb]⟩, hoq3, by simp [upd], by omega⟩, by simp [upd, numOf, e11]; omega⟩
        · have hP3 := que_full hq' hfull u
          have hR := que_room hq'
          have hle3 := hq'.le
          have w1 : IntKind.i64.wrap ((i : Int) - (out.length : Nat)) = ((q).length : Nat) := by (try simp only [List.length_nil] at *); rw [w_i64 (by omega) (by omega)]; omega
          have w3 : IntKind.i64.wrap ((((q).length : Nat) : Int) + (((sl).length : Int) - (q).length)) = N := by rw [w_i64 (by omega) (by omega)]; omega
          have gn : decide (N < (((q).length : Nat) : Int)) = false := by rw [decide_eq_false_iff_not]; omega
          obtain ⟨L, hL⟩ : ∃ L, (((q).length : Nat) : Int) = L := ⟨_, rfl⟩
          rw [hL] at w1 w3 gn hR
          simp only [go_sem, seval, eq_self, reduceCtorEq, e0, e1, e2, e8, t40, t41, e10, e11, f0, n2, n3, hz, ht0, hsc, hbt, cR5_at, spRPush_mv, spRPop_mv, spRRoom_mv, nest, uv, Int.toNat_natCast, List.getElem?_map, List.length_map, bne_self_eq_false, hx, hb, hsc2, qu, gi, hP3, hR, w1, w3, gn]
          repeat' ((first | (refine AG_of ?_ ?_ <;> intro h) | (refine AB_of ?_ ?_ <;> intro h)) <;> simp only [go_sem, seval, eq_self, reduceCtorEq, e0, e1, e2, e8, t40, t41, e10, e11, f0, n2, n3, hz, ht0, hsc, hbt, cR5_at, spRPush_mv, spRPop_mv, spRRoom_mv, nest, uv, Int.toNat_natCast, List.getElem?_map, List.length_map, bne_self_eq_false, hx, hb, hsc2, qu, gi, hP3, hR, w1, w3, gn, h])
          exact ⟨⟨by simp [upd, e0], by simp [upd, e1, uv], by simp [upd, e2], by simp [upd, e8], sl, f, n, q, v + 1, out, i, k + 1, hq', by omega, by simp [upd], by simp [upd], by simp [upd, e10], by omega, .inr ⟨hl0, v2, by simp [upd, hx], by simp [upd, hb]⟩, hoq', by simp [upd], by omega⟩, by simp [upd, numOf, e11]; omega⟩
      · have gi : decide ((i : Int) < w.length) = false := by simp; omega
        have hR := que_room hq'
        have hle3 := hq'.le
        have w1 : IntKind.i64.wrap ((i : Int) - (out.length : Nat)) = ((q).length : Nat) := by (try simp only [List.length_nil] at *); rw [w_i64 (by omega) (by omega)]; omega
        have w3 : IntKind.i64.wrap ((((q).length : Nat) : Int) + (((sl).length : Int) - (q).length)) = N := by rw [w_i64 (by omega) (by omega)]; omega
        have gn : decide (N < (((q).length : Nat) : Int)) = false := by rw [decide_eq_false_iff_not]; omega
        obtain ⟨L, hL⟩ : ∃ L, (((q).length : Nat) : Int) = L := ⟨_, rfl⟩
        rw [hL] at w1 w3 gn hR
        simp only [go_sem, seval, eq_self, reduceCtorEq, e0, e1, e2, e8, t40, t41, e10, e11, f0, n2, n3, hz, ht0, hsc, hbt, cR5_at, spRPush_mv, spRPop_mv, spRRoom_mv, nest, uv, Int.toNat_natCast, List.getElem?_map, List.length_map, bne_self_eq_false, hx, hb, hsc2, gi, hR, w1, w3, gn]
        repeat' ((first | (refine AG_of ?_ ?_ <;> intro h) | (refine AB_of ?_ ?_ <;> intro h)) <;> simp only [go_sem, seval, eq_self, reduceCtorEq, e0, e1, e2, e8, t40, t41, e10, e11, f0, n2, n3, hz, ht0, hsc, hbt, cR5_at, spRPush_mv, spRPop_mv, spRRoom_mv, nest, uv, Int.toNat_natCast, List.getElem?_map, List.length_map, bne_self_eq_false, hx, hb, hsc2, gi, hR, w1, w3, gn, h])
        exact ⟨⟨by simp [upd, e0], by simp [upd, e1], by simp [upd, e2], by simp [upd, e8], sl, f, n, q, v, out, i, k + 1, hq', by omega, by simp [upd, t40], by simp [upd, t41], by simp [upd, e10], by omega, .inr ⟨hl0, v2, by simp [upd, hx], by simp [upd, hb]⟩, hoq', by simp [upd], by omega⟩, by simp [upd, numOf, e11]; omega⟩
  · match q, hq, hoq, hqlen, hlen with
    | [], hq, hoq, hqlen, hlen =>
      have hP := que_none hq
      have hq' := hq
      have hoq' := hoq
      have hsc2 := hsc
      rcases hr with ⟨hl0, hx⟩ | ⟨hl0, v2, hx, hb⟩
      · subst hl0
        (try simp only [List.length_nil] at hlen)
        rcases Nat.lt_or_ge i w.length with hiw | hiw
        · obtain ⟨u, qu⟩ : ∃ x, w[i]? = some x := ⟨w[i], List.getElem?_eq_getElem hiw⟩
          have gi : decide ((i : Int) < w.length) = true := by simp; omega
          by_cases hfull : (([] : List Int)).length < (sl).length
          · obtain ⟨sl3, hP3, hq3, hl3⟩ := que_push hq' hfull u
            have hR := que_room hq3
            have hoq3 : ([] : List Int) ++ (([] : List Int) ++ [u]) = w.take (i + 1) := by rw [← List.append_assoc, hoq', List.take_add_one, qu]; rfl
            have hle3 := hq3.le
            have hlen3 : (([] : List Int)).length + (([] : List Int) ++ [u]).length = i + 1 := by simp at hlen ⊢; omega
            obtain ⟨Q, hQ⟩ : ∃ Q, ([] : List Int) ++ [u] = Q := ⟨_, rfl⟩
            rw [hQ] at hq3 hR hoq3 hle3 hlen3
            (try simp only [List.length_append, List.length_cons, List.length_nil] at hlen3)
            have w1 : IntKind.i64.wrap (((i + 1 : Nat) : Int) - 0) = (Q.length : Nat) := by rw [w_i64 (by omega) (by omega)]; omega
            have w3 : IntKind.i64.wrap (((Q.length : Nat) : Int) + ((sl3.length : Int) - Q.length)) = N := by rw [w_i64 (by omega) (by omega)]; omega
            rw [hl3] at hR w3
            have gn : decide (N < ((Q.length : Nat) : Int)) = false := by simp; omega
            simp only [go_sem, seval, eq_self, reduceCtorEq, e0, e1, e2, e8, t40, t41, e10, e11, f0, n2, n3, hz, ht0, hsc, hbt, cR5_at, spRPush_mv, spRPop_mv, spRRoom_mv, nest, uv, Int.toNat_natCast, List.getElem?_map, List.length_map, bne_self_eq_false, hx, hsc2, hP, qu, gi, hP3, hR, hl3, w1, w3, gn]
            repeat' ((first | (refine AG_of ?_ ?_ <;> intro h) | (refine AB_of ?_ ?_ <;> intro h)) <;> simp only [go_sem, seval, eq_self, reduceCtorEq, e0, e1, e2, e8, t40, t41, e10, e11, f0, n2, n3, hz, ht0, hsc, hbt, cR5_at, spRPush_mv, spRPop_mv, spRRoom_mv, nest, uv, Int.toNat_natCast, List.getElem?_map, List.length_map, bne_self_eq_false, hx, hsc2, hP, qu, gi, hP3, hR, hl3, w1, w3, gn, h])
            exact ⟨⟨by simp [upd, e0], by simp [upd, e1, uv], by simp [upd, e2], by simp [upd, e8], sl3, f, n + 1, Q, (v + 1) + 1, ([] : List Int), i + 1, k + 1, hq3, by omega, by simp [upd, hl3], by simp [upd], by simp [upd], by omega, .inl ⟨rfl, by simp [upd, hx]⟩, hoq3, by simp [upd], by omega⟩, by simp [upd, numOf, e11]; omega⟩
          · have hP3 := que_full hq' hfull u
            have hR := que_room hq'
            have hle3 := hq'.le
            have w1 : IntKind.i64.wrap ((i : Int) - 0) = ((([] : List Int)).length : Nat) := by (try simp only [List.length_nil] at *); rw [w_i64 (by omega) (by omega)]; omega
            have w3 : IntKind.i64.wrap ((((([] : List Int)).length : Nat) : Int) + (((sl).length : Int) - (([] : List Int)).length)) = N := by rw [w_i64 (by omega) (by omega)]; omega
            have gn : decide (N < (((([] : List Int)).length : Nat) : Int)) = false := by rw [decide_eq_false_iff_not]; omega
            obtain ⟨L, hL⟩ : ∃ L, (((([] : List Int)).length : Nat) : Int) = L := ⟨_, rfl⟩
            rw [hL] at w1 w3 gn hR
            simp only [go_sem, seval, eq_self, reduceCtorEq, e0, e1, e2, e8, t40, t41, e10, e11, f0, n2, n3, hz, ht0, hsc, hbt, cR5_at, spRPush_mv, spRPop_mv, spRRoom_mv, nest, uv, Int.toNat_natCast, List.getElem?_map, List.length_map, bne_self_eq_false, hx, hsc2, hP, qu, gi, hP3, hR, w1, w3, gn]
            repeat' ((first | (refine AG_of ?_ ?_ <;> intro h) | (refine AB_of ?_ ?_ <;> intro h)) <;> simp only [go_sem, seval, eq_self, reduceCtorEq, e0, e1, e2, e8, t40, t41, e10, e11, f0, n2, n3, hz, ht0, hsc, hbt, cR5_at, spRPush_mv, spRPop_mv, spRRoom_mv, nest, uv, Int.toNat_natCast, List.getElem?_map, List.length_map, bne_self_eq_false, hx, hsc2, hP, qu, gi, hP3, hR, w1, w3, gn, h])
            exact ⟨⟨by simp [upd, e0], by simp [upd, e1, uv], by simp [upd, e2], by simp [upd, e8], sl, f, n, ([] : List Int), (v + 1) + 1, ([] : List Int), i, k + 1, hq', by omega, by simp [upd], by simp [upd], by simp [upd, e10], by omega, .inl ⟨rfl, by simp [upd, hx]⟩, hoq', by simp [upd], by omega⟩, by simp [upd, numOf, e11]; omega⟩
        · have gi : decide ((i : Int) < w.length) = false := by simp; omega
          have hR := que_room hq'
          have hle3 := hq'.le
          have w1 : IntKind.i64.wrap ((i : Int) - 0) = ((([] : List Int)).length : Nat) := by (try simp only [List.length_nil] at *); rw [w_i64 (by omega) (by omega)]; omega
          have w3 : IntKind.i64.wrap ((((([] : List Int)).length : Nat) : Int) + (((sl).length : Int) - (([] : List Int)).length)) = N := by rw [w_i64 (by omega) (by omega)]; omega
          have gn : decide (N < (((([] : List Int)).length : Nat) : Int)) = false := by rw [decide_eq_false_iff_not]; omega
          obtain ⟨L, hL⟩ : ∃ L, (((([] : List Int)).length : Nat) : Int) = L := ⟨_, rfl⟩
          rw [hL] at w1 w3 gn hR
          simp only [go_sem, seval, eq_self, reduceCtorEq, e0, e1, e2, e8, t40, t41, e10, e11, f0, n2, n3, hz, ht0, hsc, hbt, cR5_at, spRPush_mv, spRPop_mv, spRRoom_mv, nest, uv, Int.toNat_natCast, List.getElem?_map, List.length_map, bne_self_eq_false, hx, hsc2, hP, gi, hR, w1, w3, gn]
          repeat' ((first | (refine AG_of ?_ ?_ <;> intro h) | (refine AB_of ?_ ?_ <;> intro h)) <;> simp only [go_sem, seval, eq_self, reduceCtorEq, e0, e1, e2, e8, t40, t41, e10, e11, f0, n2, n3, hz, ht0, hsc, hbt, cR5_at, spRPush_mv, spRPop_mv, spRRoom_mv, nest, uv, Int.toNat_natCast, List.getElem?_map, List.length_map, bne_self_eq_false, hx, hsc2, hP, gi, hR, w1, w3, gn, h])
          exact ⟨⟨by simp [upd, e0], by simp [upd, e1], by simp [upd, e2], by simp [upd, e8], sl, f, n, ([] : List Int), (v + 1), ([] : List Int), i, k + 1, hq', by omega, by simp [upd, t40], by simp [upd, t41], by simp [upd, e10], by omega, .inl ⟨rfl, by simp [upd, hx]⟩, hoq', by simp [upd], by omega⟩, by simp [upd, numOf, e11]; omega⟩
      ·
        rcases Nat.lt_or_ge i w.length with hiw | hiw
        · obtain ⟨u, qu⟩ : ∃ x, w[i]? = some x := ⟨w[i], List.getElem?_eq_getElem hiw⟩
          have gi : decide ((i : Int) < w.length) = true := by simp; omega
          by_cases hfull : (([] : List Int)).length < (sl).length
          · obtain ⟨sl3, hP3, hq3, hl3⟩ := que_push hq' hfull u
            have hR := que_room hq3
            have hoq3 : out ++ (([] : List Int) ++ [u]) = w.take (i + 1) := by rw [← List.append_assoc, hoq', List.take_add_one, qu]; rfl
            have hle3 := hq3.le
            have hlen3 : (out).length + (([] : List Int) ++ [u]).length = i + 1 := by simp at hlen ⊢; omega
            obtain ⟨Q, hQ⟩ : ∃ Q, ([] : List Int) ++ [u] = Q := ⟨_, rfl⟩
            rw [hQ] at hq3 hR hoq3 hle3 hlen3
            (try simp only [List.length_append, List.length_cons, List.length_nil] at hlen3)
            have w1 : IntKind.i64.wrap (((i + 1 : Nat) : Int) - (out.length : Nat)) = (Q.length : Nat) := by rw [w_i64 (by omega) (by omega)]; omega
            have w3 : IntKind.i64.wrap (((Q.length : Nat) : Int) + ((sl3.length : Int) - Q.length)) = N := by rw [w_i64 (by omega) (by omega)]; omega
            rw [hl3] at hR w3
            have gn : decide (N < ((Q.length : Nat) : Int)) = false := by simp; omega
            simp only [go_sem, seval, eq_self, reduceCtorEq, e0, e1, e2, e8, t40, t41, e10, e11, f0, n2, n3, hz, ht0, hsc, hbt, cR5_at, spRPush_mv, spRPop_mv, spRRoom_mv, nest, uv, Int.toNat_natCast, List.getElem?_map, List.length_map, bne_self_eq_false, hx, hb, hsc2, hP, qu, gi, hP3, hR, hl3, w1, w3, gn]
            repeat' ((first | (refine AG_of ?_ ?_ <;> intro h) | (refine AB_of ?_ ?_ <;> intro h)) <;> simp only [go_sem, seval, eq_self, reduceCtorEq, e0, e1, e2, e8, t40, t41, e10, e11, f0, n2, n3, hz, ht0, hsc, hbt, cR5_at, spRPush_mv, spRPop_mv, spRRoom_mv, nest, uv, Int.toNat_natCast, List.getElem?_map, List.length_map, bne_self_eq_false, hx, hb, hsc2, hP, qu, gi, hP3, hR, hl3, w1, w3, gn, h])
            exact ⟨⟨by simp [upd, e0], by simp [upd, e1, uv], by simp [upd, e2], by simp [upd, e8], sl3, f, n + 1, Q, (v + 1) + 1, out, i + 1, k + 1, hq3, by omega, by simp [upd, hl3], by simp [upd], by simp [upd], by omega, .inr ⟨hl0, v2, by simp [upd, hx], by simp [upd, hb]⟩, hoq3, by simp [upd], by omega⟩, by simp [upd, numOf, e11]; omega⟩
          · have hP3 := que_full hq' hfull u
            have hR := que_room hq'
            have hle3 := hq'.le
            have w1 : IntKind.i64.wrap ((i : Int) - (out.length : Nat)) = ((([] : List Int)).length : Nat) := by (try simp only [List.length_nil] at *); rw [w_i64 (by omega) (by omega)]; omega
            have w3 : IntKind.i64.wrap ((((([] : List Int)).length : Nat) : Int) + (((sl).length : Int) - (([] : List Int)).length)) = N := by rw [w_i64 (by omega) (by omega)]; omega
            have gn : decide (N < (((([] : List Int)).length : Nat) : Int)) = false := by rw [decide_eq_false_iff_not]; omega
            obtain ⟨L, hL⟩ : ∃ L, (((([] : List Int)).length : Nat) : Int) = L := ⟨_, rfl⟩
            rw [hL] at w1 w3 gn hR
            simp only [go_sem, seval, eq_self, reduceCtorEq, e0, e1, e2, e8, t40, t41, e10, e11, f0, n2, n3, hz, ht0, hsc, hbt, cR5_at, spRPush_mv, spRPop_mv, spRRoom_mv, nest, uv, Int.toNat_natCast, List.getElem?_map, List.length_map, bne_self_eq_false, hx, hb, hsc2, hP, qu, gi, hP3, hR, w1, w3, gn]
            repeat' ((first | (refine AG_of ?_ ?_ <;> intro h) | (refine AB_of ?_ ?_ <;> intro h)) <;> simp only [go_sem, seval, eq_self, reduceCtorEq, e0, e1, e2, e8, t40, t41, e10, e11, f0, n2, n3, hz, ht0, hsc, hbt, cR5_at, spRPush_mv, spRPop_mv, spRRoom_mv, nest, uv, Int.toNat_natCast, List.getElem?_map, List.length_map, bne_self_eq_false, hx, hb, hsc2, hP, qu, gi, hP3, hR, w1, w3, gn, h])
            exact ⟨⟨by simp [upd, e0], by simp [upd, e1, uv], by simp [upd, e2], by simp [upd, e8], sl, f, n, ([] : List Int), (v + 1) + 1, out, i, k + 1, hq', by omega, by simp [upd], by simp [upd], by simp [upd, e10], by omega, .inr ⟨hl0, v2, by simp [upd, hx], by simp [upd, hb]⟩, hoq', by simp [upd], by omega⟩, by simp [upd, numOf, e11]; omega⟩
        · have gi : decide ((i : Int) < w.length) = false := by simp; omega
          have hR := que_room hq'
          have hle3 := hq'.le
          have w1 : IntKind.i64.wrap ((i : Int) - (out.length : Nat)) = ((([] : List Int)).length : Nat) := by (try simp only [List.length_nil] at *); rw [w_i64 (by omega) (by omega)]; omega
          have w3 : IntKind.i64.wrap ((((([] : List Int)).length : Nat) : Int) + (((sl).length : Int) - (([] : List Int)).length)) = N := by rw [w_i64 (by omega) (by omega)]; omega
          have gn : decide (N < (((([] : List Int)).length : Nat) : Int)) = false := by rw [decide_eq_false_iff_not]; omega
          obtain ⟨L, hL⟩ : ∃ L, (((([] : List Int)).length : Nat) : Int) = L := ⟨_, rfl⟩
          rw [hL] at w1 w3 gn hR
          simp only [go_sem, seval, eq_self, reduceCtorEq, e0, e1, e2, e8, t40, t41, e10, e11, f0, n2, n3, hz, ht0, hsc, hbt, cR5_at, spRPush_mv, spRPop_mv, spRRoom_mv, nest, uv, Int.toNat_natCast, List.getElem?_map, List.length_map, bne_self_eq_false, hx, hb, hsc2, hP, gi, hR, w1, w3, gn]
          repeat' ((first | (refine AG_of ?_ ?_ <;> intro h) | (refine AB_of ?_ ?_ <;> intro h)) <;> simp only [go_sem, seval, eq_self, reduceCtorEq, e0, e1, e2, e8, t40, t41, e10, e11, f0, n2, n3, hz, ht0, hsc, hbt, cR5_at, spRPush_mv, spRPop_mv, spRRoom_mv, nest, uv, Int.toNat_natCast, List.getElem?_map, List.length_map, bne_self_eq_false, hx, hb, hsc2, hP, gi, hR, w1, w3, gn, h])
          exact ⟨⟨by simp [upd, e0], by simp [upd, e1], by simp [upd, e2], by simp [upd, e8], sl, f, n, ([] : List Int), (v + 1), out, i, k + 1, hq', by omega, by simp [upd, t40], by simp [upd, t41], by simp [upd, e10], by omega, .inr ⟨hl0, v2, by simp [upd, hx], by simp [upd, hb]⟩, hoq', by simp [upd], by omega⟩, by simp [upd, numOf, e11]; omega⟩
    | c :: r, hq, hoq, hqlen, hlen =>
      obtain ⟨sl2, f2, hP, hq', hl2⟩ := que_pop hq
      have hsc2 := scal_slots sl2
      have hoq' : (out ++ [c]) ++ r = w.take i := by rw [← hoq]; simp
      have hsl2 : (sl2.length : Int) = N := by omega
      simp only [List.length_cons] at hlen hqlen
      rcases hr with ⟨hl0, hx⟩ | ⟨hl0, v2, hx, hb⟩
      · subst hl0
        (try simp only [List.length_nil] at hlen)
        rcases Nat.lt_or_ge i w.length with hiw | hiw
        · obtain ⟨u, qu⟩ : ∃ x, w[i]? = some x := ⟨w[i], List.getElem?_eq_getElem hiw⟩
          have gi : decide ((i : Int) < w.length) = true := by simp; omega
          by_cases hfull : (r).length < (sl2).length
          · obtain ⟨sl3, hP3, hq3, hl3⟩ := que_push hq' hfull u
            have hR := que_room hq3
            have hoq3 : ([] ++ [c]) ++ (r ++ [u]) = w.take (i + 1) := by rw [← List.append_assoc, hoq', List.take_add_one, qu]; rfl
            have hle3 := hq3.le
            have hlen3 : (([] ++ [c])).length + (r ++ [u]).length = i + 1 := by simp at hlen ⊢; omega
            obtain ⟨Q, hQ⟩ : ∃ Q, r ++ [u] = Q := ⟨_, rfl⟩
            rw [hQ] at hq3 hR hoq3 hle3 hlen3
            (try simp only [List.length_append, List.length_cons, List.length_nil] at hlen3)
            have w1 : IntKind.i64.wrap (((i + 1 : Nat) : Int) - 1) = (Q.length : Nat) := by rw [w_i64 (by omega) (by omega)]; omega
            have w3 : IntKind.i64.wrap (((Q.length : Nat) : Int) + ((sl3.length : Int) - Q.length)) = N := by rw [w_i64 (by omega) (by omega)]; omega
            rw [hl3] at hR w3
            rw [hl2] at hR w3
            have gn : decide (N < ((Q.length : Nat) : Int)) = false := by simp; omega
            simp only [go_sem, seval, eq_self, reduceCtorEq, e0, e1, e2, e8, t40, t41, e10, e11, f0, n2, n3, hz, ht0, hsc, hbt, cR5_at, spRPush_mv, spRPop_mv, spRRoom_mv, nest, uv, Int.toNat_natCast, List.getElem?_map, List.length_map, bne_self_eq_false, hx, hsc2, hP, hl2, qu, gi, hP3, hR, hl3, w1, w3, gn]
            repeat' ((first | (refine AG_of ?_ ?_ <;> intro h) | (refine AB_of ?_ ?_ <;> intro h)) <;> simp only [go_sem, seval, eq_self, reduceCtorEq, e0, e1, e2, e8, t40, t41, e10, e11, f0, n2, n3, hz, ht0, hsc, hbt, cR5_at, spRPush_mv, spRPop_mv, spRRoom_mv, nest, uv, Int.toNat_natCast, List.getElem?_map, List.length_map, bne_self_eq_false, hx, hsc2, hP, hl2, qu, gi, hP3, hR, hl3, w1, w3, gn, h])
            exact ⟨⟨by simp [upd, e0], by simp [upd, e1, uv], by simp [upd, e2], by simp [upd, e8], sl3, f2, (n - 1) + 1, Q, (v + 1) + 1, ([] ++ [c]), i + 1, k + 1, hq3, by omega, by simp [upd, hl3, hl2], by simp [upd], by simp [upd], by omega, .inr ⟨by simp, (s.st 60).ver + 1, by simp [upd], by simp [upd, uv]⟩, hoq3, by simp [upd], by omega⟩, by simp [upd, numOf, e11]; omega⟩
          · have hP3 := que_full hq' hfull u
            have hR := que_room hq'
            have hle3 := hq'.le
            have w1 : IntKind.i64.wrap ((i : Int) - 1) = ((r).length : Nat) := by (try simp only [List.length_nil] at *); rw [w_i64 (by omega) (by omega)]; omega
            have w3 : IntKind.i64.wrap ((((r).length : Nat) : Int) + (((sl2).length : Int) - (r).length)) = N := by rw [w_i64 (by omega) (by omega)]; omega
            have gn : decide (N < (((r).length : Nat) : Int)) = false := by rw [decide_eq_false_iff_not]; omega
            rw [hl2] at hR w3
            obtain ⟨L, hL⟩ : ∃ L, (((r).length : Nat) : Int) = L := ⟨_, rfl⟩
            rw [hL] at w1 w3 gn hR
            simp only [go_sem, seval, eq_self, reduceCtorEq, e0, e1, e2, e8, t40, t41, e10, e11, f0, n2, n3, hz, ht0, hsc, hbt, cR5_at, spRPush_mv, spRPop_mv, spRRoom_mv, nest, uv, Int.toNat_natCast, List.getElem?_map, List.length_map, bne_self_eq_false, hx, hsc2, hP, hl2, qu, gi, hP3, hR, w1, w3, gn]
            repeat' ((first | (refine AG_of ?_ ?_ <;> intro h) | (refine AB_of ?_ ?_ <;> intro h)) <;> simp only [go_sem, seval, eq_self, reduceCtorEq, e0, e1, e2, e8, t40, t41, e10, e11, f0, n2, n3, hz, ht0, hsc, hbt, cR5_at, spRPush_mv, spRPop_mv, spRRoom_mv, nest, uv, Int.toNat_natCast, List.getElem?_map, List.length_map, bne_self_eq_false, hx, hsc2, hP, hl2, qu, gi, hP3, hR, w1, w3, gn, h])
            exact ⟨⟨by simp [upd, e0], by simp [upd, e1, uv], by simp [upd, e2], by simp [upd, e8], sl2, f2, (n - 1), r, (v + 1) + 1, ([] ++ [c]), i, k + 1, hq', by omega, by simp [upd, hl2], by simp [upd], by simp [upd, e10], by omega, .inr ⟨by simp, (s.st 60).ver + 1, by simp [upd], by simp [upd, uv]⟩, hoq', by simp [upd], by omega⟩, by simp [upd, numOf, e11]; omega⟩
        · have gi : decide ((i : Int) < w.length) = false := by simp; omega
          have hR := que_room hq'
          have hle3 := hq'.le
          have w1 : IntKind.i64.wrap ((i : Int) - 1) = ((r).length : Nat) := by (try simp only [List.length_nil] at *); rw [w_i64 (by omega) (by omega)]; omega
          have w3 : IntKind.i64.wrap ((((r).length : Nat) : Int) + (((sl2).length : Int) - (r).length)) = N := by rw [w_i64 (by omega) (by omega)]; omega
          have gn : decide (N < (((r).length : Nat) : Int)) = false := by rw [decide_eq_false_iff_not]; omega
          rw [hl2] at hR w3
          obtain ⟨L, hL⟩ : ∃ L, (((r).length : Nat) : Int) = L := ⟨_, rfl⟩
          rw [hL] at w1 w3 gn hR
          simp only [go_sem, seval, eq_self, reduceCtorEq, e0, e1, e2, e8, t40, t41, e10, e11, f0, n2, n3, hz, ht0, hsc, hbt, cR5_at, spRPush_mv, spRPop_mv, spRRoom_mv, nest, uv, Int.toNat_natCast, List.getElem?_map, List.length_map, bne_self_eq_false, hx, hsc2, hP, hl2, gi, hR, w1, w3, gn]
          repeat' ((first | (refine AG_of ?_ ?_ <;> intro h) | (refine AB_of ?_ ?_ <;> intro h)) <;> simp only [go_sem, seval, eq_self, reduceCtorEq, e0, e1, e2, e8, t40, t41, e10, e11, f0, n2, n3, hz, ht0, hsc, hbt, cR5_at, spRPush_mv, spRPop_mv, spRRoom_mv, nest, uv, Int.toNat_natCast, List.getElem?_map, List.length_map, bne_self_eq_false, hx, hsc2, hP, hl2, gi, hR, w1, w3, gn, h])
          exact ⟨⟨by simp [upd, e0], by simp [upd, e1], by simp [upd, e2], by simp [upd, e8], sl2, f2, (n - 1), r, (v + 1), ([] ++ [c]), i, k + 1, hq', by omega, by simp [upd, t40, hl2], by simp [upd, t41], by simp [upd, e10], by omega, .inr ⟨by simp, (s.st 60).ver + 1, by simp [upd], by simp [upd, uv]⟩, hoq', by simp [upd], by omega⟩, by simp [upd, numOf, e11]; omega⟩
      · have fl : (out.length + 1) * 4 ≤ 140737488355328 := by omega
        rcases Nat.lt_or_ge i w.length with hiw | hiw
        · obtain ⟨u, qu⟩ : ∃ x, w[i]? = some x := ⟨w[i], List.getElem?_eq_getElem hiw⟩
          have gi : decide ((i : Int) < w.length) = true := by simp; omega
          by_cases hfull : (r).length < (sl2).length
          · obtain ⟨sl3, hP3, hq3, hl3⟩ := que_push hq' hfull u
            have hR := que_room hq3
            have hoq3 : (out ++ [c]) ++ (r ++ [u]) = w.take (i + 1) := by rw [← List.append_assoc, hoq', List.take_add_one, qu]; rfl
            have hle3 := hq3.le
            have hlen3 : ((out ++ [c])).length + (r ++ [u]).length = i + 1 := by simp at hlen ⊢; omega
            obtain ⟨Q, hQ⟩ : ∃ Q, r ++ [u] = Q := ⟨_, rfl⟩
            rw [hQ] at hq3 hR hoq3 hle3 hlen3
            (try simp only [List.length_append, List.length_cons, List.length_nil] at hlen3)
            have w1 : IntKind.i64.wrap (((i + 1 : Nat) : Int) - ((out.length + 1 : Nat) : Int)) = (Q.length : Nat) := by rw [w_i64 (by omega) (by omega)]; omega
            have w3 : IntKind.i64.wrap (((Q.length : Nat) : Int) + ((sl3.length : Int) - Q.length)) = N := by rw [w_i64 (by omega) (by omega)]; omega
            rw [hl3] at hR w3
            rw [hl2] at hR w3
            have gn : decide (N < ((Q.length : Nat) : Int)) = false := by simp; omega
            simp only [go_sem, seval, eq_self, reduceCtorEq, e0, e1, e2, e8, t40, t41, e10, e11, f0, n2, n3, hz, ht0, hsc, hbt, cR5_at, spRPush_mv, spRPop_mv, spRRoom_mv, nest, uv, Int.toNat_natCast, List.getElem?_map, List.length_map, bne_self_eq_false, hx, hb, hsc2, hP, hl2, fl, qu, gi, hP3, hR, hl3, w1, w3, gn]
            repeat' ((first | (refine AG_of ?_ ?_ <;> intro h) | (refine AB_of ?_ ?_ <;> intro h)) <;> simp only [go_sem, seval, eq_self, reduceCtorEq, e0, e1, e2, e8, t40, t41, e10, e11, f0, n2, n3, hz, ht0, hsc, hbt, cR5_at, spRPush_mv, spRPop_mv, spRRoom_mv, nest, uv, Int.toNat_natCast, List.getElem?_map, List.length_map, bne_self_eq_false, hx, hb, hsc2, hP, hl2, fl, qu, gi, hP3, hR, hl3, w1, w3, gn, h])
            exact ⟨⟨by simp [upd, e0], by simp [upd, e1, uv], by simp [upd, e2], by simp [upd, e8], sl3, f2, (n - 1) + 1, Q, (v + 1) + 1, (out ++ [c]), i + 1, k + 1, hq3, by omega, by simp [upd, hl3, hl2], by simp [upd], by simp [upd], by omega, .inr ⟨by simp, v2 + 1, by simp [upd], by simp [upd, uv]⟩, hoq3, by simp [upd], by omega⟩, by simp [upd, numOf, e11]; omega⟩
          · have hP3 := que_full hq' hfull u
            have hR := que_room hq'
            have hle3 := hq'.le
            have w1 : IntKind.i64.wrap ((i : Int) - ((out.length + 1 : Nat) : Int)) = ((r).length : Nat) := by (try simp only [List.length_nil] at *); rw [w_i64 (by omega) (by omega)]; omega
            have w3 : IntKind.i64.wrap ((((r).length : Nat) : Int) + (((sl2).length : Int) - (r).length)) = N := by rw [w_i64 (by omega) (by omega)]; omega
            have gn : decide (N < (((r).length : Nat) : Int)) = false := by rw [decide_eq_false_iff_not]; omega
            rw [hl2] at hR w3
            obtain ⟨L, hL⟩ : ∃ L, (((r).length : Nat) : Int) = L := ⟨_, rfl⟩
            rw [hL] at w1 w3 gn hR
            simp only [go_sem, seval, eq_self, reduceCtorEq, e0, e1, e2, e8, t40, t41, e10, e11, f0, n2, n3, hz, ht0, hsc, hbt, cR5_at, spRPush_mv, spRPop_mv, spRRoom_mv, nest, uv, Int.toNat_natCast, List.getElem?_map, List.length_map, bne_self_eq_false, hx, hb, hsc2, hP, hl2, fl, qu, gi, hP3, hR, w1, w3, gn]
            repeat' ((first | (refine AG_of ?_ ?_ <;> intro h) | (refine AB_of ?_ ?_ <;> intro h)) <;> simp only [go_sem, seval, eq_self, reduceCtorEq, e0, e1, e2, e8, t40, t41, e10, e11, f0, n2, n3, hz, ht0, hsc, hbt, cR5_at, spRPush_mv, spRPop_mv, spRRoom_mv, nest, uv, Int.toNat_natCast, List.getElem?_map, List.length_map, bne_self_eq_false, hx, hb, hsc2, hP, hl2, fl, qu, gi, hP3, hR, w1, w3, gn, h])
            exact ⟨⟨by simp [upd, e0], by simp [upd, e1, uv], by simp [upd, e2], by simp [upd, e8], sl2, f2, (n - 1), r, (v + 1) + 1, (out ++ [c]), i, k + 1, hq', by omega, by simp [upd, hl2], by simp [upd], by simp [upd, e10], by omega, .inr ⟨by simp, v2 + 1, by simp [upd], by simp [upd, uv]⟩, hoq', by simp [upd], by omega⟩, by simp [upd, numOf, e11]; omega⟩
        · have gi : decide ((i : Int) < w.length) = false := by simp; omega
          have hR := que_room hq'
          have hle3 := hq'.le
          have w1 : IntKind.i64.wrap ((i : Int) - ((out.length + 1 : Nat) : Int)) = ((r).length : Nat) := by (try simp only [List.length_nil] at *); rw [w_i64 (by omega) (by omega)]; omega
          have w3 : IntKind.i64.wrap ((((r).length : Nat) : Int) + (((sl2).length : Int) - (r).length)) = N := by rw [w_i64 (by omega) (by omega)]; omega
          have gn : decide (N < (((r).length : Nat) : Int)) = false := by rw [decide_eq_false_iff_not]; omega
          rw [hl2] at hR w3
          obtain ⟨L, hL⟩ : ∃ L, (((r).length : Nat) : Int) = L := ⟨_, rfl⟩
          rw [hL] at w1 w3 gn hR
          simp only [go_sem, seval, eq_self, reduceCtorEq, e0, e1, e2, e8, t40, t41, e10, e11, f0, n2, n3, hz, ht0, hsc, hbt, cR5_at, spRPush_mv, spRPop_mv, spRRoom_mv, nest, uv, Int.toNat_natCast, List.getElem?_map, List.length_map, bne_self_eq_false, hx, hb, hsc2, hP, hl2, fl, gi, hR, w1, w3, gn]
          repeat' ((first | (refine AG_of ?_ ?_ <;> intro h) | (refine AB_of ?_ ?_ <;> intro h)) <;> simp only [go_sem, seval, eq_self, reduceCtorEq, e0, e1, e2, e8, t40, t41, e10, e11, f0, n2, n3, hz, ht0, hsc, hbt, cR5_at, spRPush_mv, spRPop_mv, spRRoom_mv, nest, uv, Int.toNat_natCast, List.getElem?_map, List.length_map, bne_self_eq_false, hx, hb, hsc2, hP, hl2, fl, gi, hR, w1, w3, gn, h])
          exact ⟨⟨by simp [upd, e0], by simp [upd, e1], by simp [upd, e2], by simp [upd, e8], sl2, f2, (n - 1), r, (v + 1), (out ++ [c]), i, k + 1, hq', by omega, by simp [upd, t40, hl2], by simp [upd, t41], by simp [upd, e10], by omega, .inr ⟨by simp, v2 + 1, by simp [upd], by simp [upd, uv]⟩, hoq', by simp [upd], by omega⟩, by simp [upd, numOf, e11]; omega⟩
end Go.Proofs.Ytgamljjoehncbaa
