/-
RingApart, RingBounds. No condition.
-/
import Derived.Test.YtgamljjoehncbaaRc
import Derived.Test.YtgamljjoehncbaaL0
namespace Go.Proofs.Ytgamljjoehncbaa
set_option linter.unusedSimpArgs false
set_option linter.unusedVariables false

def apI (w : List Int) (slb : List (Option Int)) (s : S) : Prop :=
  s.env 0 = .lst false 1 (w.map uv) ∧ s.env 4 = .ptr 17 1 0 ∧ s.env 5 = .ptr 18 1 0 ∧ s.st 18 = ⟨1, .box [.sw 19000 1 slb.length, .s (.int .i64 0), .s (.int .i64 0)]⟩ ∧ s.st 19000 = ⟨1, .row 1 20 (slb.map slotV)⟩ ∧
  ∃ sl f n v, ∃ k : Nat, Que sl f n (w.take k) ∧ sl.length = 64 ∧ s.st 17 = ⟨1, .box [.sw 18000 v sl.length, .s (.int .i64 f), .s (.int .i64 n)]⟩ ∧ s.st 18000 = ⟨v, .row 1 20 (sl.map slotV)⟩ ∧ s.env 6 = .s (.int .i64 k) ∧ k ≤ w.length
def spApart : Spec := ⟨[], fun xs => match xs with
  | [y] => (lOf 1 y).bind fun m => (m.mapM u32Of).bind fun _ => some (.s (.bool true))
  | _ => none⟩
set_option maxHeartbeats 4000000 in
theorem apart_impl : Impl Try.prog 9 spApart := by
  refine impl_walk2 mixed cR4_ok eqT_ok Try.func9 rfl Try.ntmps9 (by kernel_rfl) ?_
  intro xs r h
  unfold spApart at h
  simp only at h
  (try split at h) <;> try (cases (show none = some r from h); done)
  rename_i y
  obtain ⟨m, hm, h5⟩ := Option.bind_eq_some_iff.1 h
  obtain ⟨w, hw, h6⟩ := Option.bind_eq_some_iff.1 h5
  clear h h5
  have e2 := mapM_eq (fun _ _ => u32Of_eq) hw
  subst e2
  cases h6
  refine ⟨_, (SeesL.cons (lOf_sees hm) .nil).args, by simp, ?_⟩
  by_cases c1 : 60 < w.length
  · have g1 : decide (60 < (w.length : Int)) = true := by simp; omega
    simp only [go_sem, seval, eq_self, reduceCtorEq, cR4_at, spTrue_mv, spTrue_fn, g1, List.length_map]
    repeat' ((first | (refine AG_of ?_ ?_ <;> intro h) | (refine AB_of ?_ ?_ <;> intro h) | (refine A_draw_of [] [] (by kernel_rfl) ?_ <;> have h := mark)) <;> simp only [go_sem, seval, eq_self, reduceCtorEq, cR4_at, spTrue_mv, spTrue_fn, g1, List.length_map, h])
    all_goals (first | refine fin_ret ?_ | refine fin_normal ?_)
    all_goals simp only [resOf, Try.results9, Try.ntmps9, go_sem, seval, eq_self, reduceCtorEq]
  have g1 : decide (60 < (w.length : Int)) = false := by simp; omega
  obtain ⟨sla, hN, hqa, hca⟩ := que_new 64
  have hla : sla.length = 64 := by rw [show capN 64 = 64 from rfl] at hca; omega
  have hl1 : (1 : Nat) ≤ 64 := by omega
  simp only [go_sem, seval, eq_self, reduceCtorEq, cR4_at, spTrue_mv, spTrue_fn, g1, spRNew_mv, hN, nest, List.length_map]
  repeat' ((first | (refine AG_of ?_ ?_ <;> intro h) | (refine AB_of ?_ ?_ <;> intro h) | (refine A_draw_of [] [] (by kernel_rfl) ?_ <;> have h := mark)) <;> simp only [go_sem, seval, eq_self, reduceCtorEq, cR4_at, spTrue_mv, spTrue_fn, g1, spRNew_mv, hN, nest, List.length_map, h])
  refine A_loop (apI w sla) (fun s => w.length - (numOf (s.env 6)).toNat) ?_ ?_
  · exact ⟨by simp [upd, init, V.unfr], by simp [upd, init], by simp [upd, init], by simp [upd, init], by simp [upd, init], sla, 0, 0, 1, 0, hqa, hla, by simp [upd, init], by simp [upd, init], by simp [upd], by omega⟩
  intro s hs
  obtain ⟨e0, e4, e5, t18, t19, sl, f, n, v, k, hq, hsl, t17, t180, e6, hk⟩ := hs
  have hsc := scal_slots sl
  have hsb := scal_slots sla
  rcases Nat.lt_or_ge k w.length with hlt | hge
  · obtain ⟨u, q2⟩ : ∃ i, w[k]? = some i := ⟨w[k], List.getElem?_eq_getElem hlt⟩
    have f0 : decide ((k : Int) < w.length) = true := by simp; omega
    have z0 := Int.natCast_nonneg k
    have n2 : IntKind.i64.wrap ((k : Int) + 1) = (k + 1 : Nat) := by rw [w_i64 (by omega) (by omega)]; omega
    obtain ⟨sl2, hP, hq2, hl2⟩ := que_push hq (by rw [List.length_take]; omega) u
    have htk : w.take (k + 1) = w.take k ++ [u] := by rw [List.take_add_one, q2]; rfl
    rw [← htk] at hq2
    simp only [go_sem, seval, eq_self, reduceCtorEq, e0, e4, e5, t18, t19, t17, t180, e6, q2, f0, z0, n2, hsc, hP, cR4_at, spRPush_mv, nest, uv, Int.toNat_natCast, List.getElem?_map, List.length_map]
    repeat' ((first | (refine AG_of ?_ ?_ <;> intro h) | (refine AB_of ?_ ?_ <;> intro h)) <;> simp only [go_sem, seval, eq_self, reduceCtorEq, e0, e4, e5, t18, t19, t17, t180, e6, q2, f0, z0, n2, hsc, hP, cR4_at, spRPush_mv, nest, uv, Int.toNat_natCast, List.getElem?_map, List.length_map, h])
    exact ⟨⟨by simp [upd, e0, uv], by simp [upd, e4], by simp [upd, e5], by simp [upd, t18], by simp [upd, t19], sl2, f, n + 1, v + 1, k + 1, hq2, by omega, by simp [upd, hl2], by simp [upd], by simp [upd], by omega⟩, by simp [upd, numOf, e6]; omega⟩
  · have hkw : k = w.length := by omega
    have f0 : decide ((k : Int) < w.length) = false := by simp; omega
    rw [hkw, List.take_length] at hq
    have hAl := que_all hq
    obtain ⟨slb, hPb, hqb, hlb⟩ := que_push hqa (by simp; omega) 1
    have hRb := que_room hqb
    have hAb := que_all hqb
    rw [ownOr_ne (by simp)] at hAb
    have hlb2 : slb.length = 64 := by omega
    simp only [List.nil_append, List.length_cons, List.length_nil, hlb2] at hRb
    simp only [List.nil_append, List.map_cons, List.map_nil, uv] at hAb
    have hm1 : (0 : Int) + 1 = 1 := rfl
    rw [hm1] at hPb hRb hAb
    have hSm := same_v (a := w) (by omega) (x := if w = [] then .s (.slice none 0 0) else .lst false 1 (w.map uv)) (y := .lst false 1 (w.map uv)) (by split; (· rename_i e; rw [e]; rfl); (· rfl)) rfl
    obtain ⟨fa, ha⟩ : ∃ fa, fa = f := ⟨_, rfl⟩
    cases w with
    | nil =>
      rw [List.map_nil, ownOr_nil] at hAl
      rw [if_pos rfl] at hSm
      have hP := que_none hq
      obtain ⟨sl2, hP2, hq2, hl2⟩ := que_push hq (by simp; omega) 2
      simp only [List.map_nil] at hSm e0
      have f1 : decide ((k : Int) < 0) = false := by simp
      simp only [List.length_nil] at f0
      simp only [go_sem, seval, eq_self, reduceCtorEq, e0, e4, e5, t18, t19, t17, t180, e6, f0, f1, Int.natCast_zero, hsc, hsb, hAl, hP, hP2, hPb, hRb, hAb, hSm, cR4_at, spRPush_mv, spRPop_mv, spRAll_mv, spRRoom_mv, spSameW_mv, nest, List.length_map, List.length_nil]
      repeat' ((first | (refine AG_of ?_ ?_ <;> intro h) | (refine AB_of ?_ ?_ <;> intro h)) <;> simp only [go_sem, seval, eq_self, reduceCtorEq, e0, e4, e5, t18, t19, t17, t180, e6, f0, f1, Int.natCast_zero, hsc, hsb, hAl, hP, hP2, hPb, hRb, hAb, hSm, cR4_at, spRPush_mv, spRPop_mv, spRAll_mv, spRRoom_mv, spSameW_mv, nest, List.length_map, List.length_nil, h])
      all_goals (first | refine fin_ret ?_ | refine fin_normal ?_)
      all_goals simp only [resOf, Try.results9, Try.ntmps9, go_sem, seval, eq_self, reduceCtorEq]
    | cons c r =>
      rw [ownOr_ne (by simp)] at hAl
      rw [if_neg (by simp)] at hSm
      obtain ⟨sl1, f1, hP, hq1, hl1'⟩ := que_pop hq
      have hsc1 := scal_slots sl1
      obtain ⟨sl2, hP2, hq2, hl2⟩ := que_push hq1 (by simp at hge c1; omega) 2
      obtain ⟨lv, hlv⟩ : ∃ lv, (c :: r).map uv = lv := ⟨_, rfl⟩
      rw [hlv] at hAl hSm e0
      obtain ⟨W, hW⟩ : ∃ W, c :: r = W := ⟨_, rfl⟩
      have hll : lv.length = W.length := by rw [← hlv, List.length_map, hW]
      rw [hW] at f0
      simp only [go_sem, seval, eq_self, reduceCtorEq, e0, e4, e5, t18, t19, t17, t180, e6, f0, hsc, hsb, hsc1, hll, hl1', hAl, hP, hP2, hPb, hRb, hAb, hSm, cR4_at, spRPush_mv, spRPop_mv, spRAll_mv, spRRoom_mv, spSameW_mv, nest, List.length_map]
      repeat' ((first | (refine AG_of ?_ ?_ <;> intro h) | (refine AB_of ?_ ?_ <;> intro h)) <;> simp only [go_sem, seval, eq_self, reduceCtorEq, e0, e4, e5, t18, t19, t17, t180, e6, f0, hsc, hsb, hsc1, hll, hl1', hAl, hP, hP2, hPb, hRb, hAb, hSm, cR4_at, spRPush_mv, spRPop_mv, spRAll_mv, spRRoom_mv, spSameW_mv, nest, List.length_map, h])
      all_goals (first | refine fin_ret ?_ | refine fin_normal ?_)
      all_goals simp only [resOf, Try.results9, Try.ntmps9, go_sem, seval, eq_self, reduceCtorEq]

def bqW (w : Int) (i : Nat) : Int := IntKind.u32.wrap (w + IntKind.u32.wrap i)
def bq (w : Int) (i : Nat) : List Int := (List.range i).map (bqW w)
def bdI (w c : Int) (s : S) : Prop :=
  s.env 1 = .s (.int .u32 w) ∧ s.env 6 = .ptr 15 1 0 ∧ s.env 7 = .s (.int .i64 c) ∧
  ∃ sl f n v, ∃ k : Nat, Que sl f n (bq w k) ∧ (sl.length : Int) = c ∧ s.st 15 = ⟨1, .box [.sw 16000 v sl.length, .s (.int .i64 f), .s (.int .i64 n)]⟩ ∧ s.st 16000 = ⟨v, .row 1 20 (sl.map slotV)⟩ ∧ s.env 8 = .s (.int .i64 k) ∧ (k : Int) ≤ c
def spBounds : Spec := ⟨[], fun xs => match xs with
  | [.s (.int .i64 _), .s (.int .u32 w)] => if 0 ≤ w ∧ w < 4294967296 then some (.s (.bool true)) else none
  | _ => none⟩
set_option maxHeartbeats 8000000 in
theorem bounds_impl : Impl Try.prog 10 spBounds := by
  refine impl_walk mixed cR4_ok eqT_ok Try.func10 rfl Try.ntmps10 (by kernel_rfl) ?_
  intro xs r h
  unfold spBounds at h
  simp only at h
  (try split at h) <;> try (cases (show none = some r from h); done)
  rename_i N w
  split at h
  case isFalse => cases h
  rename_i hw
  cases h
  refine ⟨by simp, ?_⟩
  obtain ⟨sl0, hN, hq0, hc0⟩ := que_new N
  have hcb := capN_bd N
  have hR0 := que_room hq0
  have hw1 : (sl0.length : Int) - ((([] : List Int).length : Nat) : Int) = capN N := by simp; exact hc0
  rw [hw1] at hR0
  have hcap : capN N = if N < 1 then 1 else if 64 < N then 64 else N := rfl
  obtain ⟨c, hce⟩ : ∃ c, capN N = c := ⟨_, rfl⟩
  rw [hce] at hR0 hcap hc0 hcb
  by_cases c1 : N < 1
  ·
    have g1 : decide (N < 1) = true := by simp [c1]
    have g2 : decide (64 < N) = false := by simp; omega
    rw [if_pos c1] at hcap
    have hbn : (c != 1) = false := by simp [hcap]
    simp only [go_sem, seval, eq_self, reduceCtorEq, cR4_at, spTrue_mv, spTrue_fn, g1, g2, hbn, spRNew_mv, hN, spRRoom_mv, hR0, nest, List.length_map, bne_self_eq_false]
    repeat' ((first | (refine AG_of ?_ ?_ <;> intro h) | (refine AB_of ?_ ?_ <;> intro h) | (refine A_draw_of [] [] (by kernel_rfl) ?_ <;> have h := mark)) <;> simp only [go_sem, seval, eq_self, reduceCtorEq, cR4_at, spTrue_mv, spTrue_fn, g1, g2, hbn, spRNew_mv, hN, spRRoom_mv, hR0, nest, List.length_map, bne_self_eq_false, h])
    refine A_loop (bdI w c) (fun s => (numOf (s.env 7)).toNat - (numOf (s.env 8)).toNat) ?_ ?_
    · exact ⟨by simp [upd, init, V.unfr], by simp [upd, init], by simp [upd, init, V.unfr, hcap], sl0, 0, 0, 1, 0, hq0, hc0, by simp [upd, init], by simp [upd, init], by simp [upd], by omega⟩
    intro s hs
    obtain ⟨e1, e6, e7, sl, f, n, v, k, hq, hsl, t15, t16, e8, hk⟩ := hs
    have hsc := scal_slots sl
    have hbl : (bq w k).length = k := by simp [bq]
    rcases (show (k : Int) < sl.length ∨ (sl.length : Int) ≤ k by omega) with hlt | hge
    · obtain ⟨sl2, hP, hq2, hl2⟩ := que_push hq (by rw [hbl]; omega) (bqW w k)
      have f0 : decide ((k : Int) < sl.length) = true := by simp; omega
      rw [hsl] at f0
      have n2 : IntKind.i64.wrap ((k : Int) + 1) = (k + 1 : Nat) := by rw [w_i64 (by omega) (by omega)]; omega
      have hbs : bq w (k + 1) = bq w k ++ [bqW w k] := by simp [bq, List.range_succ]
      rw [← hbs] at hq2
      unfold bqW at hP
      simp only [go_sem, seval, eq_self, reduceCtorEq, e1, e6, e7, t15, t16, e8, f0, n2, hsc, hP, cR4_at, spRPush_mv, nest, List.length_map]
      repeat' ((first | (refine AG_of ?_ ?_ <;> intro h) | (refine AB_of ?_ ?_ <;> intro h)) <;> simp only [go_sem, seval, eq_self, reduceCtorEq, e1, e6, e7, t15, t16, e8, f0, n2, hsc, hP, cR4_at, spRPush_mv, nest, List.length_map, h])
      exact ⟨⟨by simp [upd, e1], by simp [upd, e6], by simp [upd, e7], sl2, f, n + 1, v + 1, k + 1, hq2, by rw [hl2]; exact hsl, by simp [upd, hl2], by simp [upd], by simp [upd], by omega⟩, by simp [upd, numOf, e8, e7]; omega⟩
    · have f0 : decide ((k : Int) < sl.length) = false := by simp; omega
      rw [hsl] at f0
      have hP1 := que_full hq (by rw [hbl]; omega) w
      obtain ⟨m, hm⟩ : ∃ m, k = m + 1 := ⟨k - 1, by omega⟩
      have hbc : bq w k = w :: (List.range m).map fun j => bqW w (j + 1) := by
        rw [hm]
        unfold bq
        rw [List.range_succ_eq_map, List.map_cons, List.map_map]
        have : bqW w 0 = w := by
          unfold bqW
          rw [show IntKind.u32.wrap ((0 : Nat) : Int) = 0 from rfl, Int.add_zero, w_u32 (by omega) (by omega)]
        rw [this]; rfl
      rw [hbc] at hq
      obtain ⟨r, hr⟩ : ∃ r, ((List.range m).map fun j => bqW w (j + 1)) = r := ⟨_, rfl⟩
      have hrl : r.length = m := by rw [← hr]; simp
      rw [hr] at hq
      obtain ⟨sl1, f1, hP2, hq1, hl1⟩ := que_pop hq
      have hsc1 := scal_slots sl1
      obtain ⟨sl2, hP3, hq2, hl2⟩ := que_push hq1 (by omega) w
      have hR := que_room hq2
      have hAl := que_all hq2
      rw [ownOr_ne (by simp)] at hAl
      have hz : (sl2.length : Int) - ((r ++ [w]).length : Int) = 0 := by simp; omega
      rw [hz] at hR
      obtain ⟨lv, hlv⟩ : ∃ lv, (r ++ [w]).map uv = lv := ⟨_, rfl⟩
      have hll : (lv.length : Int) = sl.length := by rw [← hlv]; simp; omega
      rw [hlv] at hAl
      rw [hsl] at hll
      simp only [go_sem, seval, eq_self, reduceCtorEq, e1, e6, e7, t15, t16, e8, f0, hsc, hsc1, hP1, hP2, hP3, hR, hAl, hl1, hl2, hll, cR4_at, spRPush_mv, spRPop_mv, spRRoom_mv, spRAll_mv, nest, List.length_map]
      repeat' ((first | (refine AG_of ?_ ?_ <;> intro h) | (refine AB_of ?_ ?_ <;> intro h)) <;> simp only [go_sem, seval, eq_self, reduceCtorEq, e1, e6, e7, t15, t16, e8, f0, hsc, hsc1, hP1, hP2, hP3, hR, hAl, hl1, hl2, hll, cR4_at, spRPush_mv, spRPop_mv, spRRoom_mv, spRAll_mv, nest, List.length_map, h])
      all_goals (first | refine fin_ret ?_ | refine fin_normal ?_)
      all_goals simp only [resOf, Try.results10, Try.ntmps10, go_sem, seval, eq_self, reduceCtorEq]
  have g1 : decide (N < 1) = false := by simp; omega
  rw [if_neg c1] at hcap
  by_cases c2 : 64 < N
  ·
    have g2 : decide (64 < N) = true := by simp [c2]
    rw [if_pos c2] at hcap
    have hbn : (c != 64) = false := by simp [hcap]
    simp only [go_sem, seval, eq_self, reduceCtorEq, cR4_at, spTrue_mv, spTrue_fn, g1, g2, hbn, spRNew_mv, hN, spRRoom_mv, hR0, nest, List.length_map, bne_self_eq_false]
    repeat' ((first | (refine AG_of ?_ ?_ <;> intro h) | (refine AB_of ?_ ?_ <;> intro h) | (refine A_draw_of [] [] (by kernel_rfl) ?_ <;> have h := mark)) <;> simp only [go_sem, seval, eq_self, reduceCtorEq, cR4_at, spTrue_mv, spTrue_fn, g1, g2, hbn, spRNew_mv, hN, spRRoom_mv, hR0, nest, List.length_map, bne_self_eq_false, h])
    refine A_loop (bdI w c) (fun s => (numOf (s.env 7)).toNat - (numOf (s.env 8)).toNat) ?_ ?_
    · exact ⟨by simp [upd, init, V.unfr], by simp [upd, init], by simp [upd, init, V.unfr, hcap], sl0, 0, 0, 1, 0, hq0, hc0, by simp [upd, init], by simp [upd, init], by simp [upd], by omega⟩
    intro s hs
    obtain ⟨e1, e6, e7, sl, f, n, v, k, hq, hsl, t15, t16, e8, hk⟩ := hs
    have hsc := scal_slots sl
    have hbl : (bq w k).length = k := by simp [bq]
    rcases (show (k : Int) < sl.length ∨ (sl.length : Int) ≤ k by omega) with hlt | hge
    · obtain ⟨sl2, hP, hq2, hl2⟩ := que_push hq (by rw [hbl]; omega) (bqW w k)
      have f0 : decide ((k : Int) < sl.length) = true := by simp; omega
      rw [hsl] at f0
      have n2 : IntKind.i64.wrap ((k : Int) + 1) = (k + 1 : Nat) := by rw [w_i64 (by omega) (by omega)]; omega
      have hbs : bq w (k + 1) = bq w k ++ [bqW w k] := by simp [bq, List.range_succ]
      rw [← hbs] at hq2
      unfold bqW at hP
      simp only [go_sem, seval, eq_self, reduceCtorEq, e1, e6, e7, t15, t16, e8, f0, n2, hsc, hP, cR4_at, spRPush_mv, nest, List.length_map]
      repeat' ((first | (refine AG_of ?_ ?_ <;> intro h) | (refine AB_of ?_ ?_ <;> intro h)) <;> simp only [go_sem, seval, eq_self, reduceCtorEq, e1, e6, e7, t15, t16, e8, f0, n2, hsc, hP, cR4_at, spRPush_mv, nest, List.length_map, h])
      exact ⟨⟨by simp [upd, e1], by simp [upd, e6], by simp [upd, e7], sl2, f, n + 1, v + 1, k + 1, hq2, by rw [hl2]; exact hsl, by simp [upd, hl2], by simp [upd], by simp [upd], by omega⟩, by simp [upd, numOf, e8, e7]; omega⟩
    · have f0 : decide ((k : Int) < sl.length) = false := by simp; omega
      rw [hsl] at f0
      have hP1 := que_full hq (by rw [hbl]; omega) w
      obtain ⟨m, hm⟩ : ∃ m, k = m + 1 := ⟨k - 1, by omega⟩
      have hbc : bq w k = w :: (List.range m).map fun j => bqW w (j + 1) := by
        rw [hm]
        unfold bq
        rw [List.range_succ_eq_map, List.map_cons, List.map_map]
        have : bqW w 0 = w := by
          unfold bqW
          rw [show IntKind.u32.wrap ((0 : Nat) : Int) = 0 from rfl, Int.add_zero, w_u32 (by omega) (by omega)]
        rw [this]; rfl
      rw [hbc] at hq
      obtain ⟨r, hr⟩ : ∃ r, ((List.range m).map fun j => bqW w (j + 1)) = r := ⟨_, rfl⟩
      have hrl : r.length = m := by rw [← hr]; simp
      rw [hr] at hq
      obtain ⟨sl1, f1, hP2, hq1, hl1⟩ := que_pop hq
      have hsc1 := scal_slots sl1
      obtain ⟨sl2, hP3, hq2, hl2⟩ := que_push hq1 (by omega) w
      have hR := que_room hq2
      have hAl := que_all hq2
      rw [ownOr_ne (by simp)] at hAl
      have hz : (sl2.length : Int) - ((r ++ [w]).length : Int) = 0 := by simp; omega
      rw [hz] at hR
      obtain ⟨lv, hlv⟩ : ∃ lv, (r ++ [w]).map uv = lv := ⟨_, rfl⟩
      have hll : (lv.length : Int) = sl.length := by rw [← hlv]; simp; omega
      rw [hlv] at hAl
      rw [hsl] at hll
      simp only [go_sem, seval, eq_self, reduceCtorEq, e1, e6, e7, t15, t16, e8, f0, hsc, hsc1, hP1, hP2, hP3, hR, hAl, hl1, hl2, hll, cR4_at, spRPush_mv, spRPop_mv, spRRoom_mv, spRAll_mv, nest, List.length_map]
      repeat' ((first | (refine AG_of ?_ ?_ <;> intro h) | (refine AB_of ?_ ?_ <;> intro h)) <;> simp only [go_sem, seval, eq_self, reduceCtorEq, e1, e6, e7, t15, t16, e8, f0, hsc, hsc1, hP1, hP2, hP3, hR, hAl, hl1, hl2, hll, cR4_at, spRPush_mv, spRPop_mv, spRRoom_mv, spRAll_mv, nest, List.length_map, h])
      all_goals (first | refine fin_ret ?_ | refine fin_normal ?_)
      all_goals simp only [resOf, Try.results10, Try.ntmps10, go_sem, seval, eq_self, reduceCtorEq]
  ·
    have g2 : decide (64 < N) = false := by simp; omega
    rw [if_neg c2] at hcap
    have hbn : (c != N) = false := by simp [hcap]
    simp only [go_sem, seval, eq_self, reduceCtorEq, cR4_at, spTrue_mv, spTrue_fn, g1, g2, hbn, spRNew_mv, hN, spRRoom_mv, hR0, nest, List.length_map, bne_self_eq_false]
    repeat' ((first | (refine AG_of ?_ ?_ <;> intro h) | (refine AB_of ?_ ?_ <;> intro h) | (refine A_draw_of [] [] (by kernel_rfl) ?_ <;> have h := mark)) <;> simp only [go_sem, seval, eq_self, reduceCtorEq, cR4_at, spTrue_mv, spTrue_fn, g1, g2, hbn, spRNew_mv, hN, spRRoom_mv, hR0, nest, List.length_map, bne_self_eq_false, h])
    refine A_loop (bdI w c) (fun s => (numOf (s.env 7)).toNat - (numOf (s.env 8)).toNat) ?_ ?_
    · exact ⟨by simp [upd, init, V.unfr], by simp [upd, init], by simp [upd, init, V.unfr, hcap], sl0, 0, 0, 1, 0, hq0, hc0, by simp [upd, init], by simp [upd, init], by simp [upd], by omega⟩
    intro s hs
    obtain ⟨e1, e6, e7, sl, f, n, v, k, hq, hsl, t15, t16, e8, hk⟩ := hs
    have hsc := scal_slots sl
    have hbl : (bq w k).length = k := by simp [bq]
    rcases (show (k : Int) < sl.length ∨ (sl.length : Int) ≤ k by omega) with hlt | hge
    · obtain ⟨sl2, hP, hq2, hl2⟩ := que_push hq (by rw [hbl]; omega) (bqW w k)
      have f0 : decide ((k : Int) < sl.length) = true := by simp; omega
      rw [hsl] at f0
      have n2 : IntKind.i64.wrap ((k : Int) + 1) = (k + 1 : Nat) := by rw [w_i64 (by omega) (by omega)]; omega
      have hbs : bq w (k + 1) = bq w k ++ [bqW w k] := by simp [bq, List.range_succ]
      rw [← hbs] at hq2
      unfold bqW at hP
      simp only [go_sem, seval, eq_self, reduceCtorEq, e1, e6, e7, t15, t16, e8, f0, n2, hsc, hP, cR4_at, spRPush_mv, nest, List.length_map]
      repeat' ((first | (refine AG_of ?_ ?_ <;> intro h) | (refine AB_of ?_ ?_ <;> intro h)) <;> simp only [go_sem, seval, eq_self, reduceCtorEq, e1, e6, e7, t15, t16, e8, f0, n2, hsc, hP, cR4_at, spRPush_mv, nest, List.length_map, h])
      exact ⟨⟨by simp [upd, e1], by simp [upd, e6], by simp [upd, e7], sl2, f, n + 1, v + 1, k + 1, hq2, by rw [hl2]; exact hsl, by simp [upd, hl2], by simp [upd], by simp [upd], by omega⟩, by simp [upd, numOf, e8, e7]; omega⟩
    · have f0 : decide ((k : Int) < sl.length) = false := by simp; omega
      rw [hsl] at f0
      have hP1 := que_full hq (by rw [hbl]; omega) w
      obtain ⟨m, hm⟩ : ∃ m, k = m + 1 := ⟨k - 1, by omega⟩
      have hbc : bq w k = w :: (List.range m).map fun j => bqW w (j + 1) := by
        rw [hm]
        unfold bq
        rw [List.range_succ_eq_map, List.map_cons, List.map_map]
        have : bqW w 0 = w := by
          unfold bqW
          rw [show IntKind.u32.wrap ((0 : Nat) : Int) = 0 from rfl, Int.add_zero, w_u32 (by omega) (by omega)]
        rw [this]; rfl
      rw [hbc] at hq
      obtain ⟨r, hr⟩ : ∃ r, ((List.range m).map fun j => bqW w (j + 1)) = r := ⟨_, rfl⟩
      have hrl : r.length = m := by rw [← hr]; simp
      rw [hr] at hq
      obtain ⟨sl1, f1, hP2, hq1, hl1⟩ := que_pop hq
      have hsc1 := scal_slots sl1
      obtain ⟨sl2, hP3, hq2, hl2⟩ := que_push hq1 (by omega) w
      have hR := que_room hq2
      have hAl := que_all hq2
      rw [ownOr_ne (by simp)] at hAl
      have hz : (sl2.length : Int) - ((r ++ [w]).length : Int) = 0 := by simp; omega
      rw [hz] at hR
      obtain ⟨lv, hlv⟩ : ∃ lv, (r ++ [w]).map uv = lv := ⟨_, rfl⟩
      have hll : (lv.length : Int) = sl.length := by rw [← hlv]; simp; omega
      rw [hlv] at hAl
      rw [hsl] at hll
      simp only [go_sem, seval, eq_self, reduceCtorEq, e1, e6, e7, t15, t16, e8, f0, hsc, hsc1, hP1, hP2, hP3, hR, hAl, hl1, hl2, hll, cR4_at, spRPush_mv, spRPop_mv, spRRoom_mv, spRAll_mv, nest, List.length_map]
      repeat' ((first | (refine AG_of ?_ ?_ <;> intro h) | (refine AB_of ?_ ?_ <;> intro h)) <;> simp only [go_sem, seval, eq_self, reduceCtorEq, e1, e6, e7, t15, t16, e8, f0, hsc, hsc1, hP1, hP2, hP3, hR, hAl, hl1, hl2, hll, cR4_at, spRPush_mv, spRPop_mv, spRRoom_mv, spRAll_mv, nest, List.length_map, h])
      all_goals (first | refine fin_ret ?_ | refine fin_normal ?_)
      all_goals simp only [resOf, Try.results10, Try.ntmps10, go_sem, seval, eq_self, reduceCtorEq]
end Go.Proofs.Ytgamljjoehncbaa
