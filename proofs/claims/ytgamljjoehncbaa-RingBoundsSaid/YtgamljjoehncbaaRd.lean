/-
RingPlays. No condition.
-/
import Derived.Test.YtgamljjoehncbaaRc
namespace Go.Proofs.Ytgamljjoehncbaa
set_option linter.unusedSimpArgs false
set_option linter.unusedVariables false

theorem qp_nil {c : Int} (hc : 1 ≤ c) (w : Int) : spQPush.fn [.obx [.s (.int .i64 c), .s (.slice none 0 0)], .s (.int .u32 w)] = some (.io 0 (.s (.bool true)) (.obx [.s (.int .i64 c), .own 1 22 [.s (.int .u32 w)]])) := by
  simp only [spQPush, wordsOf, Option.bind_some, List.length_nil]
  rw [if_pos (by omega), if_neg (by simp; omega)]; rfl
theorem qp_row {c : Int} {l : List Int} (h : l.length ≤ 1000) (hc : (l.length : Int) < c) (w : Int) : spQPush.fn [.obx [.s (.int .i64 c), .own 1 22 (l.map uv)], .s (.int .u32 w)] = some (.io 0 (.s (.bool true)) (.obx [.s (.int .i64 c), .own 1 22 (l.map uv ++ [.s (.int .u32 w)])])) := by
  simp only [spQPush, wordsOf_own, Option.bind_some]
  rw [if_pos h, if_neg (by omega)]
  simp [queX, uv]
theorem qp_full {c : Int} {l : List Int} (h : l.length ≤ 1000) (hc : c ≤ (l.length : Int)) (w : Int) : spQPush.fn [.obx [.s (.int .i64 c), .own 1 22 (l.map uv)], .s (.int .u32 w)] = some (.io 0 (.s (.bool false)) (.obx [.s (.int .i64 c), .own 1 22 (l.map uv)])) := by
  simp only [spQPush, wordsOf_own, Option.bind_some]
  rw [if_pos h, if_pos hc]
theorem qo_nil (c : Int) : spQPop.fn [.obx [.s (.int .i64 c), .s (.slice none 0 0)]] = some (.io 0 (.tup [.s (.int .u32 0), .s (.bool false)]) (.obx [.s (.int .i64 c), .s (.slice none 0 0)])) := rfl
theorem qo_empty (c : Int) : spQPop.fn [.obx [.s (.int .i64 c), .own 1 22 []]] = some (.io 0 (.tup [.s (.int .u32 0), .s (.bool false)]) (.obx [.s (.int .i64 c), .own 1 22 []])) := by kernel_rfl
theorem qo_row (c w : Int) (r : List Int) : spQPop.fn [.obx [.s (.int .i64 c), .own 1 22 (.s (.int .u32 w) :: r.map uv)]] = some (.io 0 (.tup [.s (.int .u32 w), .s (.bool true)]) (.obx [.s (.int .i64 c), .own 1 22 (r.map uv)])) := by
  have : wordsOf (.own 1 22 (.s (.int .u32 w) :: r.map uv)) = some (w :: r) := wordsOf_own (w :: r)
  simp only [spQPop, this, Option.bind_some]; rfl
theorem qr_v {c : Int} {l : List Int} {x : V} (hx : lOf 1 x = some (l.map uv)) (h : l.length ≤ 1000) (h0 : 0 ≤ c) (h1 : c ≤ 1000) : spQRoom.fn [.ept [.s (.int .i64 c), x]] = some (.s (.int .i64 (c - l.length))) := by
  simp only [spQRoom, hx, Option.bind_some, List.length_map]
  rw [if_pos ⟨h, h0, h1⟩]
theorem qa_v (c : Int) {l : List Int} {x : V} (hx : lOf 1 x = some (l.map uv)) (h : l.length ≤ 1000) : spQAll.fn [.ept [.s (.int .i64 c), x]] = some (.own 1 22 (l.map uv)) := by
  simp only [spQAll, hx, Option.bind_some, mapM_of u32Of_v]
  rw [if_pos h]
def QI (X : V) (k : Blk) (q : List Int) : Prop := (q = [] ∧ X = .s (.slice none 0 0)) ∨ ∃ v, X = .sw 35001 v q.length ∧ k = ⟨v, .row 1 22 (q.map uv)⟩
def playI (N : Int) (a w : List Int) (s : S) : Prop :=
  s.env 1 = .lst false 1 (a.map iv) ∧ s.env 2 = .lst false 1 (w.map uv) ∧ s.env 8 = .ptr 32 1 0 ∧ s.env 9 = .ptr 34 1 0 ∧
  ∃ sl f n q v X, Que sl f n q ∧ (sl.length : Int) = capN N ∧ s.st 32 = ⟨1, .box [.sw 33000 v sl.length, .s (.int .i64 f), .s (.int .i64 n)]⟩ ∧ s.st 33000 = ⟨v, .row 1 20 (sl.map slotV)⟩ ∧
    s.st 34 = ⟨1, .box [.s (.int .i64 (capN N)), X]⟩ ∧ QI X (s.st 35001) q ∧ ∃ k : Nat, s.env 10 = .s (.int .i64 k) ∧ k ≤ a.length
def spPlays : Spec := ⟨[], fun xs => match xs with
  | [.s (.int .i64 _), x, y] => (lOf 1 x).bind fun l => (l.mapM i64Of).bind fun _ => (lOf 1 y).bind fun m => (m.mapM u32Of).bind fun _ => some (.s (.bool true))
  | _ => none⟩
set_option maxHeartbeats 8000000 in
set_option maxRecDepth 8000 in
theorem plays_impl : Impl Try.prog 7 spPlays := by
  refine impl_walk2 mixed cR4_ok eqT_ok Try.func7 rfl Try.ntmps7 (by kernel_rfl) ?_
  intro xs r h
  unfold spPlays at h
  simp only at h
  (try split at h) <;> try (cases (show none = some r from h); done)
  rename_i N x y
  obtain ⟨l, hl, h3⟩ := Option.bind_eq_some_iff.1 h
  obtain ⟨a, ha, h4⟩ := Option.bind_eq_some_iff.1 h3
  obtain ⟨m, hm, h5⟩ := Option.bind_eq_some_iff.1 h4
  obtain ⟨w, hw, h6⟩ := Option.bind_eq_some_iff.1 h5
  clear h h3 h4 h5
  have e1 := mapM_eq (fun _ _ => i64Of_eq) ha
  have e2 := mapM_eq (fun _ _ => u32Of_eq) hw
  subst e1
  subst e2
  cases h6
  refine ⟨_, (SeesL.cons .same (.cons (lOf_sees hl) (.cons (lOf_sees hm) .nil))).args, by simp, ?_⟩
  by_cases c1 : 200 < a.length
  · have g1 : decide (200 < (a.length : Int)) = true := by simp; omega
    simp only [go_sem, seval, eq_self, reduceCtorEq, cR4_at, spTrue_mv, spTrue_fn, g1, List.length_map]
    repeat' ((first | (refine AG_of ?_ ?_ <;> intro h) | (refine AB_of ?_ ?_ <;> intro h) | (refine A_draw_of [] [] (by kernel_rfl) ?_ <;> have h := mark)) <;> simp only [go_sem, seval, eq_self, reduceCtorEq, cR4_at, spTrue_mv, spTrue_fn, g1, List.length_map, h])
    all_goals (first | refine fin_ret ?_ | refine fin_normal ?_)
    all_goals simp only [resOf, Try.results7, Try.ntmps7, go_sem, seval, eq_self, reduceCtorEq]
  have g1 : decide (200 < (a.length : Int)) = false := by simp; omega
  by_cases c2 : w.length < a.length
  · have g2 : decide ((w.length : Int) < a.length) = true := by simp; omega
    simp only [go_sem, seval, eq_self, reduceCtorEq, cR4_at, spTrue_mv, spTrue_fn, g1, g2, List.length_map]
    repeat' ((first | (refine AG_of ?_ ?_ <;> intro h) | (refine AB_of ?_ ?_ <;> intro h) | (refine A_draw_of [] [] (by kernel_rfl) ?_ <;> have h := mark)) <;> simp only [go_sem, seval, eq_self, reduceCtorEq, cR4_at, spTrue_mv, spTrue_fn, g1, g2, List.length_map, h])
    all_goals (first | refine fin_ret ?_ | refine fin_normal ?_)
    all_goals simp only [resOf, Try.results7, Try.ntmps7, go_sem, seval, eq_self, reduceCtorEq]
  have g2 : decide ((w.length : Int) < a.length) = false := by simp; omega
  obtain ⟨sl0, hN, hq0, hc0⟩ := que_new N
  simp only [go_sem, seval, eq_self, reduceCtorEq, cR4_at, cR4_q, spTrue_mv, spTrue_fn, g1, g2, spRNew_mv, hN, spQNew_mv, spQNew_fn, nest, List.length_map]
  repeat' ((first | (refine AG_of ?_ ?_ <;> intro h) | (refine AB_of ?_ ?_ <;> intro h) | (refine A_draw_of [] [] (by kernel_rfl) ?_ <;> have h := mark)) <;> simp only [go_sem, seval, eq_self, reduceCtorEq, cR4_at, cR4_q, spTrue_mv, spTrue_fn, g1, g2, spRNew_mv, hN, spQNew_mv, spQNew_fn, nest, List.length_map, h])
  refine A_loop (playI N a w) (fun s => a.length - (numOf (s.env 10)).toNat) ?_ ?_
  · exact ⟨by simp [upd, init, V.unfr], by simp [upd, init, V.unfr], by simp [upd, init], by simp [upd, init], sl0, 0, 0, [], 1, .s (.slice none 0 0), hq0, hc0, by simp [upd, init], by simp [upd, init], by simp [upd, init], .inl ⟨rfl, rfl⟩, 0, by simp [upd], by omega⟩
  intro s hs
  obtain ⟨e1, e2, e8, e9, sl, f, n, q, v, X, hq, hcap, t32, t33, t34, hX, k, e10, hk⟩ := hs
  have hcb := capN_bd N
  have hql := hq.le
  have hsl64 : sl.length ≤ 64 := by omega
  have hsl1 : 1 ≤ sl.length := by omega
  have hsc := scal_slots sl
  have hsq := scal_uv q
  rcases Nat.lt_or_ge k a.length with hlt | hge
  case inr =>
    have f0 : decide ((k : Int) < a.length) = false := by simp; omega
    simp only [go_sem, seval, eq_self, reduceCtorEq, e1, e10, f0, List.length_map]
    repeat' ((first | (refine AG_of ?_ ?_ <;> intro h) | (refine AB_of ?_ ?_ <;> intro h) | (refine A_draw_of [] [] (by kernel_rfl) ?_ <;> have h := mark)) <;> simp only [go_sem, seval, eq_self, reduceCtorEq, e1, e10, f0, List.length_map, h])
    all_goals (first | refine fin_ret ?_ | refine fin_normal ?_)
    all_goals simp only [resOf, Try.results7, Try.ntmps7, go_sem, seval, eq_self, reduceCtorEq]
  obtain ⟨z, q1⟩ : ∃ i, a[k]? = some i := ⟨a[k], List.getElem?_eq_getElem hlt⟩
  obtain ⟨u, q2⟩ : ∃ i, w[k]? = some i := ⟨w[k]'(by omega), List.getElem?_eq_getElem (by omega)⟩
  have f0 : decide ((k : Int) < a.length) = true := by simp; omega
  have z0 := Int.natCast_nonneg k
  have n2 : IntKind.i64.wrap ((k : Int) + 1) = (k + 1 : Nat) := by rw [w_i64 (by omega) (by omega)]; omega
  rw [← hcap] at t34 hcb
  cases hb : (bits .and .i64 z 1 == 0)
  · rcases hX with ⟨hq00, hX⟩ | ⟨v2, hX, t35⟩
    · subst hq00
      subst hX
      have hP := que_none hq
      have hQ := qo_nil sl.length
      have hq2 := hq
      have hcap2 := hcap
      have hR := que_room hq2
      have hAl := que_all hq2
      rw [List.map_nil, ownOr_nil] at hAl
      have hQR := qr_v (c := sl.length) (l := []) (x := .s (.slice none 0 0)) rfl (by have := hq2.le; omega) (by omega) (by omega)
      have hQA := qa_v (sl.length) (l := []) (x := .s (.slice none 0 0)) rfl (by have := hq2.le; omega)
      have hSm := same_v (a := []) (by have := hq2.le; omega) (x := .s (.slice none 0 0)) (y := .lst false 1 (([]).map uv)) rfl rfl
      simp only [List.map_nil] at hSm hQA
      simp only [go_sem, seval, eq_self, reduceCtorEq, e1, e2, e8, e9, t32, t33, t34, e10, q1, q2, f0, z0, n2, hb, hsc, hsq, cR4_at, cR4_q, spRPush_mv, spRPop_mv, spRRoom_mv, spRAll_mv, spQPush_mv, spQPop_mv, spQRoom_mv, spQAll_mv, spSameW_mv, nest, iv, uv, Int.toNat_natCast, List.getElem?_map, List.length_map, bne_self_eq_false, hP, hQ, hR, hAl, hQR, hQA, hSm]
      repeat' ((first | (refine AG_of ?_ ?_ <;> intro h) | (refine AB_of ?_ ?_ <;> intro h)) <;> simp only [go_sem, seval, eq_self, reduceCtorEq, e1, e2, e8, e9, t32, t33, t34, e10, q1, q2, f0, z0, n2, hb, hsc, hsq, cR4_at, cR4_q, spRPush_mv, spRPop_mv, spRRoom_mv, spRAll_mv, spQPush_mv, spQPop_mv, spQRoom_mv, spQAll_mv, spSameW_mv, nest, iv, uv, Int.toNat_natCast, List.getElem?_map, List.length_map, bne_self_eq_false, hP, hQ, hR, hAl, hQR, hQA, hSm, h])
      exact ⟨⟨by simp [upd, e1, iv], by simp [upd, e2, uv], by simp [upd, e8], by simp [upd, e9], sl, f, n, [], v + 1, .s (.slice none 0 0), hq2, hcap2, by simp [upd], by simp [upd], by simp [upd, hcap], .inl ⟨rfl, rfl⟩, k + 1, by simp [upd], by omega⟩, by simp [upd, numOf, e10]; omega⟩
    · subst hX
      match q, hq, hsq, hql, t35 with
      | [], hq, hsq, hql, t35 =>
        have hP := que_none hq
        have hQ := qo_empty sl.length
        have hq2 := hq
        have hcap2 := hcap
        have hR := que_room hq2
        have hAl := que_all hq2
        rw [List.map_nil, ownOr_nil] at hAl
        have hQR := qr_v (c := sl.length) (l := []) (x := .lst false 1 []) rfl (by have := hq2.le; omega) (by omega) (by omega)
        have hQA := qa_v (sl.length) (l := []) (x := .lst false 1 []) rfl (by have := hq2.le; omega)
        have hSm := same_v (a := []) (by have := hq2.le; omega) (x := .s (.slice none 0 0)) (y := .lst false 1 (([]).map uv)) rfl rfl
        simp only [List.map_nil] at hSm hQA hsq t35
        simp only [List.length_nil] at t34 hQR
        simp only [go_sem, seval, eq_self, reduceCtorEq, t35, e1, e2, e8, e9, t32, t33, t34, e10, q1, q2, f0, z0, n2, hb, hsc, hsq, cR4_at, cR4_q, spRPush_mv, spRPop_mv, spRRoom_mv, spRAll_mv, spQPush_mv, spQPop_mv, spQRoom_mv, spQAll_mv, spSameW_mv, nest, iv, uv, Int.toNat_natCast, List.getElem?_map, List.length_map, bne_self_eq_false, hP, hQ, hR, hAl, hQR, hQA, hSm]
        repeat' ((first | (refine AG_of ?_ ?_ <;> intro h) | (refine AB_of ?_ ?_ <;> intro h)) <;> simp only [go_sem, seval, eq_self, reduceCtorEq, t35, e1, e2, e8, e9, t32, t33, t34, e10, q1, q2, f0, z0, n2, hb, hsc, hsq, cR4_at, cR4_q, spRPush_mv, spRPop_mv, spRRoom_mv, spRAll_mv, spQPush_mv, spQPop_mv, spQRoom_mv, spQAll_mv, spSameW_mv, nest, iv, uv, Int.toNat_natCast, List.getElem?_map, List.length_map, bne_self_eq_false, hP, hQ, hR, hAl, hQR, hQA, hSm, h])
        exact ⟨⟨by simp [upd, e1, iv], by simp [upd, e2, uv], by simp [upd, e8], by simp [upd, e9], sl, f, n, [], v + 1, .sw 35001 (v2 + 1) 0, hq2, hcap2, by simp [upd], by simp [upd], by simp [upd, hcap], .inr ⟨v2 + 1, rfl, by simp [upd]⟩, k + 1, by simp [upd], by omega⟩, by simp [upd, numOf, e10]; omega⟩
      | c :: r, hq, hsq, hql, t35 =>
        obtain ⟨sl2, f2, hP, hq2, hl2⟩ := que_pop hq
        have hQ := qo_row sl.length c r
        have hcap2 : (sl2.length : Int) = capN N := by rw [hl2]; exact hcap
        have hsr := scal_uv r
        simp only [List.map_cons, List.length_cons, uv] at t35 hsq t34
        cases r with
        | nil =>
          have hR := que_room hq2
          have hAl := que_all hq2
          rw [List.map_nil, ownOr_nil] at hAl
          have hQR := qr_v (c := sl2.length) (l := []) (x := .lst false 1 []) rfl (by have := hq2.le; omega) (by omega) (by omega)
          have hQA := qa_v (sl2.length) (l := []) (x := .lst false 1 []) rfl (by have := hq2.le; omega)
          have hSm := same_v (a := []) (by have := hq2.le; omega) (x := .s (.slice none 0 0)) (y := .lst false 1 (([]).map uv)) rfl rfl
          simp only [List.map_nil] at hSm hQA hsq t35 hQ hsr
          rw [hl2] at hQR hQA
          simp only [List.length_nil] at t34 hQR
          simp only [go_sem, seval, eq_self, reduceCtorEq, t35, hl2, e1, e2, e8, e9, t32, t33, t34, e10, q1, q2, f0, z0, n2, hb, hsc, hsq, cR4_at, cR4_q, spRPush_mv, spRPop_mv, spRRoom_mv, spRAll_mv, spQPush_mv, spQPop_mv, spQRoom_mv, spQAll_mv, spSameW_mv, nest, iv, uv, Int.toNat_natCast, List.getElem?_map, List.length_map, bne_self_eq_false, hP, hQ, hR, hAl, hQR, hQA, hSm]
          repeat' ((first | (refine AG_of ?_ ?_ <;> intro h) | (refine AB_of ?_ ?_ <;> intro h)) <;> simp only [go_sem, seval, eq_self, reduceCtorEq, t35, hl2, e1, e2, e8, e9, t32, t33, t34, e10, q1, q2, f0, z0, n2, hb, hsc, hsq, cR4_at, cR4_q, spRPush_mv, spRPop_mv, spRRoom_mv, spRAll_mv, spQPush_mv, spQPop_mv, spQRoom_mv, spQAll_mv, spSameW_mv, nest, iv, uv, Int.toNat_natCast, List.getElem?_map, List.length_map, bne_self_eq_false, hP, hQ, hR, hAl, hQR, hQA, hSm, h])
          exact ⟨⟨by simp [upd, e1, iv], by simp [upd, e2, uv], by simp [upd, e8], by simp [upd, e9], sl2, f2, (n - 1), [], v + 1, .sw 35001 (v2 + 1) 0, hq2, hcap2, by simp [upd, hl2], by simp [upd], by simp [upd, hcap], .inr ⟨v2 + 1, rfl, by simp [upd]⟩, k + 1, by simp [upd], by omega⟩, by simp [upd, numOf, e10]; omega⟩
        | cons c2 r =>
          have hR := que_room hq2
          have hAl := que_all hq2
          rw [ownOr_ne (by simp)] at hAl
          have hQR := qr_v (c := sl2.length) (l := (c2 :: r)) (x := .lst false 1 ((c2 :: r).map uv)) rfl (by have := hq2.le; omega) (by omega) (by omega)
          have hQA := qa_v (sl2.length) (l := (c2 :: r)) (x := .lst false 1 ((c2 :: r).map uv)) rfl (by have := hq2.le; omega)
          have hSm := same_v (a := (c2 :: r)) (by have := hq2.le; omega) (x := .lst false 1 (((c2 :: r)).map uv)) (y := .lst false 1 (((c2 :: r)).map uv)) rfl rfl
          obtain ⟨lv, hlv⟩ : ∃ lv, (c2 :: r).map uv = lv := ⟨_, rfl⟩
          have hll : lv.length = (c2 :: r).length := by rw [← hlv, List.length_map]
          obtain ⟨R, hR0⟩ : ∃ R, c2 :: r = R := ⟨_, rfl⟩
          rw [hlv] at hSm hQA hsq t35 hQ hsr hAl
          rw [hR0] at hR hQR hll t34 hq2 hq hlv
          rw [hl2] at hQR hQA
          rw [hlv] at hQR
          simp only [go_sem, seval, eq_self, reduceCtorEq, t35, hl2, hll, hsr, e1, e2, e8, e9, t32, t33, t34, e10, q1, q2, f0, z0, n2, hb, hsc, hsq, cR4_at, cR4_q, spRPush_mv, spRPop_mv, spRRoom_mv, spRAll_mv, spQPush_mv, spQPop_mv, spQRoom_mv, spQAll_mv, spSameW_mv, nest, iv, uv, Int.toNat_natCast, List.getElem?_map, List.length_map, bne_self_eq_false, hP, hQ, hR, hAl, hQR, hQA, hSm]
          repeat' ((first | (refine AG_of ?_ ?_ <;> intro h) | (refine AB_of ?_ ?_ <;> intro h)) <;> simp only [go_sem, seval, eq_self, reduceCtorEq, t35, hl2, hll, hsr, e1, e2, e8, e9, t32, t33, t34, e10, q1, q2, f0, z0, n2, hb, hsc, hsq, cR4_at, cR4_q, spRPush_mv, spRPop_mv, spRRoom_mv, spRAll_mv, spQPush_mv, spQPop_mv, spQRoom_mv, spQAll_mv, spSameW_mv, nest, iv, uv, Int.toNat_natCast, List.getElem?_map, List.length_map, bne_self_eq_false, hP, hQ, hR, hAl, hQR, hQA, hSm, h])
          exact ⟨⟨by simp [upd, e1, iv], by simp [upd, e2, uv], by simp [upd, e8], by simp [upd, e9], sl2, f2, (n - 1), R, v + 1, .sw 35001 (v2 + 1) R.length, hq2, hcap2, by simp [upd, hl2], by simp [upd], by simp [upd, hcap], .inr ⟨v2 + 1, rfl, by simp [upd, hlv]⟩, k + 1, by simp [upd], by omega⟩, by simp [upd, numOf, e10]; omega⟩
  · rcases hX with ⟨hq00, hX⟩ | ⟨v2, hX, t35⟩
    · subst hq00
      subst hX
      obtain ⟨sl2, hP, hq2, hl2⟩ := que_push hq (by simp; omega) u
      have hQ := qp_nil (c := sl.length) (by omega) u
      have hcap2 : (sl2.length : Int) = capN N := by rw [hl2]; exact hcap
      have hR := que_room hq2
      have hAl := que_all hq2
      rw [ownOr_ne (by simp)] at hAl
      have hQR := qr_v (c := sl2.length) (l := ([] ++ [u])) (x := .lst false 1 (([] ++ [u]).map uv)) rfl (by have := hq2.le; omega) (by omega) (by omega)
      have hQA := qa_v (sl2.length) (l := ([] ++ [u])) (x := .lst false 1 (([] ++ [u]).map uv)) rfl (by have := hq2.le; omega)
      have hSm := same_v (a := ([] ++ [u])) (by have := hq2.le; omega) (x := .lst false 1 ((([] ++ [u])).map uv)) (y := .lst false 1 ((([] ++ [u])).map uv)) rfl rfl
      simp only [List.nil_append, List.map_cons, List.map_nil, uv, List.length_cons, List.length_nil] at hSm hQA hQR hR hAl
      rw [hl2] at hQR hQA
      simp only [go_sem, seval, eq_self, reduceCtorEq, hl2, e1, e2, e8, e9, t32, t33, t34, e10, q1, q2, f0, z0, n2, hb, hsc, hsq, cR4_at, cR4_q, spRPush_mv, spRPop_mv, spRRoom_mv, spRAll_mv, spQPush_mv, spQPop_mv, spQRoom_mv, spQAll_mv, spSameW_mv, nest, iv, uv, Int.toNat_natCast, List.getElem?_map, List.length_map, bne_self_eq_false, hP, hQ, hR, hAl, hQR, hQA, hSm]
      repeat' ((first | (refine AG_of ?_ ?_ <;> intro h) | (refine AB_of ?_ ?_ <;> intro h)) <;> simp only [go_sem, seval, eq_self, reduceCtorEq, hl2, e1, e2, e8, e9, t32, t33, t34, e10, q1, q2, f0, z0, n2, hb, hsc, hsq, cR4_at, cR4_q, spRPush_mv, spRPop_mv, spRRoom_mv, spRAll_mv, spQPush_mv, spQPop_mv, spQRoom_mv, spQAll_mv, spSameW_mv, nest, iv, uv, Int.toNat_natCast, List.getElem?_map, List.length_map, bne_self_eq_false, hP, hQ, hR, hAl, hQR, hQA, hSm, h])
      refine A_draw_of [32, 33000, 34, 35001] [54, 60] (by kernel_rfl) ?_
      simp only [go_sem, seval, eq_self, reduceCtorEq, hl2, e1, e2, e8, e9, t32, t33, t34, e10, q1, q2, f0, z0, n2, hb, hsc, hsq, cR4_at, cR4_q, spRPush_mv, spRPop_mv, spRRoom_mv, spRAll_mv, spQPush_mv, spQPop_mv, spQRoom_mv, spQAll_mv, spSameW_mv, nest, iv, uv, Int.toNat_natCast, List.getElem?_map, List.length_map, bne_self_eq_false, hP, hQ, hR, hAl, hQR, hQA, hSm]
      repeat' ((first | (refine AG_of ?_ ?_ <;> intro h) | (refine AB_of ?_ ?_ <;> intro h)) <;> simp only [go_sem, seval, eq_self, reduceCtorEq, hl2, e1, e2, e8, e9, t32, t33, t34, e10, q1, q2, f0, z0, n2, hb, hsc, hsq, cR4_at, cR4_q, spRPush_mv, spRPop_mv, spRRoom_mv, spRAll_mv, spQPush_mv, spQPop_mv, spQRoom_mv, spQAll_mv, spSameW_mv, nest, iv, uv, Int.toNat_natCast, List.getElem?_map, List.length_map, bne_self_eq_false, hP, hQ, hR, hAl, hQR, hQA, hSm, h])
      exact ⟨⟨by simp [upd, e1, iv], by simp [upd, e2, uv], by simp [upd, e8], by simp [upd, e9], sl2, f, (n + 1), ([] ++ [u]), v + 1, .sw 35001 ((s.st 35001).ver + 1) 1, hq2, hcap2, by simp [upd, hl2], by simp [upd], by simp [upd, hcap], .inr ⟨(s.st 35001).ver + 1, rfl, by simp [upd, uv]⟩, k + 1, by simp [upd], by omega⟩, by simp [upd, numOf, e10]; omega⟩
    · subst hX
      by_cases hfull : q.length < sl.length
      ·
        obtain ⟨sl2, hP, hq2, hl2⟩ := que_push hq hfull u
        have hQ := qp_row (c := sl.length) (l := q) (by omega) (by omega) u
        have hcap2 : (sl2.length : Int) = capN N := by rw [hl2]; exact hcap
        have hR := que_room hq2
        have hAl := que_all hq2
        rw [ownOr_ne (by simp)] at hAl
        have hQR := qr_v (c := sl2.length) (l := (q ++ [u])) (x := .lst false 1 ((q ++ [u]).map uv)) rfl (by have := hq2.le; omega) (by omega) (by omega)
        have hQA := qa_v (sl2.length) (l := (q ++ [u])) (x := .lst false 1 ((q ++ [u]).map uv)) rfl (by have := hq2.le; omega)
        have hSm := same_v (a := (q ++ [u])) (by have := hq2.le; omega) (x := .lst false 1 (((q ++ [u])).map uv)) (y := .lst false 1 (((q ++ [u])).map uv)) rfl rfl
        obtain ⟨lv, hlv⟩ : ∃ lv, q.map uv = lv := ⟨_, rfl⟩
        have hll : lv.length = q.length := by rw [← hlv, List.length_map]
        simp only [List.map_append, List.map_cons, List.map_nil, List.length_append, List.length_cons, List.length_nil, hlv, Nat.zero_add] at hSm hQA hQR hR hAl
        simp only [uv] at hSm hQA hQR hAl
        rw [hlv] at hQ hsq t35
        rw [hl2] at hQR hQA
        simp only [go_sem, seval, eq_self, reduceCtorEq, t35, hl2, hll, List.length_append, e1, e2, e8, e9, t32, t33, t34, e10, q1, q2, f0, z0, n2, hb, hsc, hsq, cR4_at, cR4_q, spRPush_mv, spRPop_mv, spRRoom_mv, spRAll_mv, spQPush_mv, spQPop_mv, spQRoom_mv, spQAll_mv, spSameW_mv, nest, iv, uv, Int.toNat_natCast, List.getElem?_map, List.length_map, bne_self_eq_false, hP, hQ, hR, hAl, hQR, hQA, hSm]
        repeat' ((first | (refine AG_of ?_ ?_ <;> intro h) | (refine AB_of ?_ ?_ <;> intro h)) <;> simp only [go_sem, seval, eq_self, reduceCtorEq, t35, hl2, hll, List.length_append, e1, e2, e8, e9, t32, t33, t34, e10, q1, q2, f0, z0, n2, hb, hsc, hsq, cR4_at, cR4_q, spRPush_mv, spRPop_mv, spRRoom_mv, spRAll_mv, spQPush_mv, spQPop_mv, spQRoom_mv, spQAll_mv, spSameW_mv, nest, iv, uv, Int.toNat_natCast, List.getElem?_map, List.length_map, bne_self_eq_false, hP, hQ, hR, hAl, hQR, hQA, hSm, h])
        refine A_draw_of [32, 33000, 34, 35001] [54, 60] (by kernel_rfl) ?_
        simp only [go_sem, seval, eq_self, reduceCtorEq, t35, hl2, hll, List.length_append, e1, e2, e8, e9, t32, t33, t34, e10, q1, q2, f0, z0, n2, hb, hsc, hsq, cR4_at, cR4_q, spRPush_mv, spRPop_mv, spRRoom_mv, spRAll_mv, spQPush_mv, spQPop_mv, spQRoom_mv, spQAll_mv, spSameW_mv, nest, iv, uv, Int.toNat_natCast, List.getElem?_map, List.length_map, bne_self_eq_false, hP, hQ, hR, hAl, hQR, hQA, hSm]
        repeat' ((first | (refine AG_of ?_ ?_ <;> intro h) | (refine AB_of ?_ ?_ <;> intro h)) <;> simp only [go_sem, seval, eq_self, reduceCtorEq, t35, hl2, hll, List.length_append, e1, e2, e8, e9, t32, t33, t34, e10, q1, q2, f0, z0, n2, hb, hsc, hsq, cR4_at, cR4_q, spRPush_mv, spRPop_mv, spRRoom_mv, spRAll_mv, spQPush_mv, spQPop_mv, spQRoom_mv, spQAll_mv, spSameW_mv, nest, iv, uv, Int.toNat_natCast, List.getElem?_map, List.length_map, bne_self_eq_false, hP, hQ, hR, hAl, hQR, hQA, hSm, h])
        exact ⟨⟨by simp [upd, e1, iv], by simp [upd, e2, uv], by simp [upd, e8], by simp [upd, e9], sl2, f, (n + 1), (q ++ [u]), v + 1, .sw 35001 (v2 + 1) (q.length + 1), hq2, hcap2, by simp [upd, hl2], by simp [upd], by simp [upd, hcap], .inr ⟨v2 + 1, by simp, by simp [upd, ← hlv, uv]⟩, k + 1, by simp [upd], by omega⟩, by simp [upd, numOf, e10]; omega⟩
      ·
        have hP := que_full hq hfull u
        have hQ := qp_full (c := sl.length) (l := q) (by omega) (by omega) u
        have hq2 := hq
        have hcap2 := hcap
        have hne : q ≠ [] := by rintro rfl; exact hfull (by simp only [List.length_nil]; omega)
        have hR := que_room hq2
        have hAl := que_all hq2
        rw [ownOr_ne hne] at hAl
        have hQR := qr_v (c := sl.length) (l := q) (x := .lst false 1 (q.map uv)) rfl (by have := hq2.le; omega) (by omega) (by omega)
        have hQA := qa_v (sl.length) (l := q) (x := .lst false 1 (q.map uv)) rfl (by have := hq2.le; omega)
        have hSm := same_v (a := q) (by have := hq2.le; omega) (x := .lst false 1 ((q).map uv)) (y := .lst false 1 ((q).map uv)) rfl rfl
        obtain ⟨lv, hlv⟩ : ∃ lv, q.map uv = lv := ⟨_, rfl⟩
        have hll : lv.length = q.length := by rw [← hlv, List.length_map]
        rw [hlv] at hQ hsq t35 hSm hQA hAl hQR
        simp only [go_sem, seval, eq_self, reduceCtorEq, t35, hll, e1, e2, e8, e9, t32, t33, t34, e10, q1, q2, f0, z0, n2, hb, hsc, hsq, cR4_at, cR4_q, spRPush_mv, spRPop_mv, spRRoom_mv, spRAll_mv, spQPush_mv, spQPop_mv, spQRoom_mv, spQAll_mv, spSameW_mv, nest, iv, uv, Int.toNat_natCast, List.getElem?_map, List.length_map, bne_self_eq_false, hP, hQ, hR, hAl, hQR, hQA, hSm]
        repeat' ((first | (refine AG_of ?_ ?_ <;> intro h) | (refine AB_of ?_ ?_ <;> intro h)) <;> simp only [go_sem, seval, eq_self, reduceCtorEq, t35, hll, e1, e2, e8, e9, t32, t33, t34, e10, q1, q2, f0, z0, n2, hb, hsc, hsq, cR4_at, cR4_q, spRPush_mv, spRPop_mv, spRRoom_mv, spRAll_mv, spQPush_mv, spQPop_mv, spQRoom_mv, spQAll_mv, spSameW_mv, nest, iv, uv, Int.toNat_natCast, List.getElem?_map, List.length_map, bne_self_eq_false, hP, hQ, hR, hAl, hQR, hQA, hSm, h])
        refine A_draw_of [32, 33000, 34, 35001] [54, 60] (by kernel_rfl) ?_
        simp only [go_sem, seval, eq_self, reduceCtorEq, t35, hll, e1, e2, e8, e9, t32, t33, t34, e10, q1, q2, f0, z0, n2, hb, hsc, hsq, cR4_at, cR4_q, spRPush_mv, spRPop_mv, spRRoom_mv, spRAll_mv, spQPush_mv, spQPop_mv, spQRoom_mv, spQAll_mv, spSameW_mv, nest, iv, uv, Int.toNat_natCast, List.getElem?_map, List.length_map, bne_self_eq_false, hP, hQ, hR, hAl, hQR, hQA, hSm]
        repeat' ((first | (refine AG_of ?_ ?_ <;> intro h) | (refine AB_of ?_ ?_ <;> intro h)) <;> simp only [go_sem, seval, eq_self, reduceCtorEq, t35, hll, e1, e2, e8, e9, t32, t33, t34, e10, q1, q2, f0, z0, n2, hb, hsc, hsq, cR4_at, cR4_q, spRPush_mv, spRPop_mv, spRRoom_mv, spRAll_mv, spQPush_mv, spQPop_mv, spQRoom_mv, spQAll_mv, spSameW_mv, nest, iv, uv, Int.toNat_natCast, List.getElem?_map, List.length_map, bne_self_eq_false, hP, hQ, hR, hAl, hQR, hQA, hSm, h])
        exact ⟨⟨by simp [upd, e1, iv], by simp [upd, e2, uv], by simp [upd, e8], by simp [upd, e9], sl, f, n, q, v + 1, .sw 35001 (v2 + 1) q.length, hq2, hcap2, by simp [upd], by simp [upd], by simp [upd, hcap], .inr ⟨v2 + 1, rfl, by simp [upd, hlv]⟩, k + 1, by simp [upd], by omega⟩, by simp [upd, numOf, e10]; omega⟩
end Go.Proofs.Ytgamljjoehncbaa
