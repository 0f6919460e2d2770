/-
Package ring by the plain reckoning: queues with bounds. No condition.
-/
import Derived.Test.YtgamljjoehncbaaO3
namespace Go.Proofs.Ytgamljjoehncbaa
set_option linter.unusedSimpArgs false
set_option linter.unusedVariables false

attribute [go_sem high] List.not_mem_nil not_false_eq_true List.mem_cons
def slotV : Option Int → V
  | none => .s .nilIface
  | some w => .s (.iface 22 (.int .u32 w))
def slotOf : V → Option (Option Int)
  | .s .nilIface => some none
  | .s (.iface t (.int .u32 w)) => if t = 22 then some (some w) else none
  | _ => none
theorem slotOf_eq {x : V} {o : Option Int} (h : slotOf x = some o) : x = slotV o := by
  unfold slotOf at h
  split at h
  · cases h; rfl
  · split at h
    · rename_i e
      cases h; rw [e]; rfl
    · cases h
  · cases h
theorem slotOf_v (o : Option Int) : slotOf (slotV o) = some o := by cases o <;> rfl
theorem scal_slots (l : List (Option Int)) : (l.map slotV).all V.scal = true := by
  rw [List.all_eq_true]; intro x hx; obtain ⟨b, _, rfl⟩ := List.mem_map.1 hx; cases b <;> rfl
def RingOk (sl : List (Option Int)) (f n : Int) : Prop := 1 ≤ sl.length ∧ sl.length ≤ 64 ∧ 0 ≤ f ∧ f < sl.length ∧ 0 ≤ n ∧ n ≤ sl.length
instance (sl : List (Option Int)) (f n : Int) : Decidable (RingOk sl f n) := inferInstanceAs (Decidable (_ ∧ _))
/-- the place of the i-th word -/
def placeR (sl : List (Option Int)) (f i : Int) : Nat := ((f + i) % sl.length).toNat
theorem place_lt {sl : List (Option Int)} (h : 1 ≤ sl.length) (f i : Int) : placeR sl f i < sl.length := by
  unfold placeR
  have h1 := Int.emod_lt_of_pos (f + i) (show (0 : Int) < sl.length by omega)
  have h0 := Int.emod_nonneg (f + i) (show (sl.length : Int) ≠ 0 by omega)
  omega
theorem place_mod {sl : List (Option Int)} (h : 1 ≤ sl.length) {f i : Int} (h0 : 0 ≤ f + i) : Int.tmod (f + i) sl.length = (placeR sl f i : Nat) := by
  unfold placeR
  rw [Int.tmod_eq_emod_of_nonneg h0]
  have h0 := Int.emod_nonneg (f + i) (show (sl.length : Int) ≠ 0 by omega)
  omega
def atR (sl : List (Option Int)) (f i : Int) : Option Int := sl.getD (placeR sl f i) none
theorem atR_get {sl : List (Option Int)} (h : 1 ≤ sl.length) (f i : Int) : sl[placeR sl f i]? = some (atR sl f i) := by
  unfold atR
  rw [List.getD_eq_getElem?_getD, List.getElem?_eq_getElem (place_lt h f i)]; rfl

def capN (n : Int) : Int := if n < 1 then 1 else if 64 < n then 64 else n
theorem capN_bd (n : Int) : 1 ≤ capN n ∧ capN n ≤ 64 := by unfold capN; (repeat' split) <;> omega
def spRNew : Spec := ⟨[], fun xs => match xs with
  | [.s (.int .i64 n)] => some (.obx [.own 1 20 ((List.replicate (capN n).toNat (none : Option Int)).map slotV), .s (.int .i64 0), .s (.int .i64 0)])
  | _ => none⟩
theorem spRNew_mv : spRNew.mv = [] := rfl
theorem spRNew_fn (n : Int) : spRNew.fn [.s (.int .i64 n)] = some (.obx [.own 1 20 ((List.replicate (capN n).toNat (none : Option Int)).map slotV), .s (.int .i64 0), .s (.int .i64 0)]) := rfl
theorem rnew_impl : Impl Try.prog 20 spRNew := by
  refine impl_walk mixed orc0_ok eqT_ok Try.func20 rfl Try.ntmps20 (by kernel_rfl) ?_
  intro xs r h
  unfold spRNew at h
  simp only at h
  (try split at h) <;> try (cases (show none = some r from h); done)
  rename_i n
  cases h
  refine ⟨by simp, ?_⟩
  have hc := capN_bd n
  rw [List.map_replicate, show slotV none = .s .nilIface from rfl]
  unfold capN at hc ⊢
  by_cases c1 : n < 1
  · have g1 : ¬ 64 < n := by omega
    have g2 : ¬ 1 < n := by omega
    rw [if_pos c1]
    simp only [go_sem, seval, eq_self, reduceCtorEq, g1, g2]
    repeat' ((first | (refine AG_of ?_ ?_ <;> intro h) | (refine AB_of ?_ ?_ <;> intro h) | (refine A_draw_of [] [] (by kernel_rfl) ?_ <;> have h := mark)) <;> simp only [go_sem, seval, eq_self, reduceCtorEq, g1, g2, h])
    all_goals (first | refine fin_ret ?_ | refine fin_normal ?_)
    all_goals simp only [resOf, Try.results20, Try.ntmps20, go_sem, seval, eq_self, reduceCtorEq, nest]
  by_cases c2 : 64 < n
  · rw [if_neg c1, if_pos c2]
    simp only [go_sem, seval, eq_self, reduceCtorEq, c2]
    repeat' ((first | (refine AG_of ?_ ?_ <;> intro h) | (refine AB_of ?_ ?_ <;> intro h) | (refine A_draw_of [] [] (by kernel_rfl) ?_ <;> have h := mark)) <;> simp only [go_sem, seval, eq_self, reduceCtorEq, c2, h])
    all_goals (first | refine fin_ret ?_ | refine fin_normal ?_)
    all_goals simp only [resOf, Try.results20, Try.ntmps20, go_sem, seval, eq_self, reduceCtorEq, nest]
  by_cases c3 : n = 1
  · subst c3
    rw [if_neg c1, if_neg c2]
    simp only [go_sem, seval, eq_self, reduceCtorEq]
    repeat' ((first | (refine AG_of ?_ ?_ <;> intro h) | (refine AB_of ?_ ?_ <;> intro h) | (refine A_draw_of [] [] (by kernel_rfl) ?_ <;> have h := mark)) <;> simp only [go_sem, seval, eq_self, reduceCtorEq, h])
    all_goals (first | refine fin_ret ?_ | refine fin_normal ?_)
    all_goals simp only [resOf, Try.results20, Try.ntmps20, go_sem, seval, eq_self, reduceCtorEq, nest]
  have g2 : 1 < n := by omega
  have g3 : n * 16 ≤ 140737488355328 := by omega
  have g4 : n ≤ 1000000 := by omega
  have g5 : 0 ≤ n := by omega
  rw [if_neg c1, if_neg c2]
  have g6 : (List.replicate n.toNat (V.s Value.nilIface)).all V.scal = true := by
    rw [List.all_eq_true]; intro x hx; rw [(List.mem_replicate.1 hx).2]; rfl
  simp only [go_sem, seval, eq_self, reduceCtorEq, c2, g2, g3, g4, g5]
  repeat' ((first | (refine AG_of ?_ ?_ <;> intro h) | (refine AB_of ?_ ?_ <;> intro h) | (refine A_draw_of [] [] (by kernel_rfl) ?_ <;> have h := mark)) <;> simp only [go_sem, seval, eq_self, reduceCtorEq, c2, g2, g3, g4, g5, h])
  all_goals (first | refine fin_ret ?_ | refine fin_normal ?_)
  all_goals simp only [resOf, Try.results20, Try.ntmps20, go_sem, seval, eq_self, reduceCtorEq, nest, g6]

def spRAt : Spec := ⟨[], fun xs => match xs with
  | [.ept [.lst _ 1 l, .s (.int .i64 f), .s (.int .i64 n)], .s (.int .i64 i)] => (l.mapM slotOf).bind fun sl => if RingOk sl f n ∧ 0 ≤ i ∧ i ≤ 1000 then some (.tup [.s (.int .u32 ((atR sl f i).getD 0)), .s (.bool (atR sl f i).isSome)]) else none
  | _ => none⟩
theorem spRAt_mv : spRAt.mv = [] := rfl
theorem spRAt_v {sl : List (Option Int)} {f n i : Int} (h : RingOk sl f n) (h0 : 0 ≤ i) (h1 : i ≤ 1000) (k : Bool) : spRAt.fn [.ept [.lst k 1 (sl.map slotV), .s (.int .i64 f), .s (.int .i64 n)], .s (.int .i64 i)] = some (.tup [.s (.int .u32 ((atR sl f i).getD 0)), .s (.bool (atR sl f i).isSome)]) := by
  simp only [spRAt, mapM_of slotOf_v, Option.bind_some, if_pos (show RingOk sl f n ∧ 0 ≤ i ∧ i ≤ 1000 from ⟨h, h0, h1⟩)]
set_option maxHeartbeats 1000000 in
theorem rat_impl : Impl Try.prog 32 spRAt := by
  refine impl_walk mixed orc0_ok eqT_ok Try.func32 rfl Try.ntmps32 (by kernel_rfl) ?_
  intro xs r h
  unfold spRAt at h
  simp only at h
  (try split at h) <;> try (cases (show none = some r from h); done)
  rename_i k l f n i
  obtain ⟨sl, hsl, h2⟩ := Option.bind_eq_some_iff.1 h
  have e := mapM_eq (fun _ _ => slotOf_eq) hsl
  clear h hsl
  subst e
  split at h2
  case isFalse => cases h2
  rename_i hh
  obtain ⟨⟨hl1, hl2, hf0, hf1, hn0, hn1⟩, hi0, hi1⟩ := hh
  cases h2
  refine ⟨by simp, ?_⟩
  have w1 : IntKind.i64.wrap (f + i) = f + i := w_i64 (by omega) (by omega)
  have hne : ¬ (sl.length : Int) = 0 := by omega
  have hm := place_mod hl1 (f := f) (i := i) (by omega)
  have hq := atR_get hl1 f i
  have hp := place_lt hl1 f i
  obtain ⟨p, hpe⟩ : ∃ p, placeR sl f i = p := ⟨_, rfl⟩
  rw [hpe] at hm hq hp
  have z0 := Int.natCast_nonneg p
  have z1 : (p : Int) < sl.length := by omega
  obtain ⟨a, ha⟩ : ∃ a, atR sl f i = a := ⟨_, rfl⟩
  rw [ha] at hq ⊢
  cases a with
  | none =>
    simp only [go_sem, seval, eq_self, reduceCtorEq, w1, hne, hm, hq, z0, z1, slotV, Int.toNat_natCast, List.getElem?_map, List.length_map]
    repeat' ((first | (refine AG_of ?_ ?_ <;> intro h) | (refine AB_of ?_ ?_ <;> intro h) | (refine A_draw_of [] [] (by kernel_rfl) ?_ <;> have h := mark)) <;> simp only [go_sem, seval, eq_self, reduceCtorEq, w1, hne, hm, hq, z0, z1, slotV, Int.toNat_natCast, List.getElem?_map, List.length_map, h])
    all_goals (first | refine fin_ret ?_ | refine fin_normal ?_)
    all_goals simp only [resOf, Try.results32, Try.ntmps32, go_sem, seval, eq_self, reduceCtorEq, Option.getD_none]
  | some w =>
    simp only [go_sem, seval, eq_self, reduceCtorEq, w1, hne, hm, hq, z0, z1, slotV, Int.toNat_natCast, List.getElem?_map, List.length_map]
    repeat' ((first | (refine AG_of ?_ ?_ <;> intro h) | (refine AB_of ?_ ?_ <;> intro h) | (refine A_draw_of [] [] (by kernel_rfl) ?_ <;> have h := mark)) <;> simp only [go_sem, seval, eq_self, reduceCtorEq, w1, hne, hm, hq, z0, z1, slotV, Int.toNat_natCast, List.getElem?_map, List.length_map, h])
    all_goals (first | refine fin_ret ?_ | refine fin_normal ?_)
    all_goals simp only [resOf, Try.results32, Try.ntmps32, go_sem, seval, eq_self, reduceCtorEq]

def spRRoom : Spec := ⟨[], fun xs => match xs with
  | [.ept [.lst _ 1 l, .s (.int .i64 _), .s (.int .i64 n)]] => if l.length ≤ 1000 ∧ -1000 ≤ n ∧ n ≤ 1000 then some (.s (.int .i64 (l.length - n))) else none
  | _ => none⟩
theorem spRRoom_mv : spRRoom.mv = [] := rfl
theorem spRRoom_v {sl : List (Option Int)} {f n : Int} (h : RingOk sl f n) (k : Bool) : spRRoom.fn [.ept [.lst k 1 (sl.map slotV), .s (.int .i64 f), .s (.int .i64 n)]] = some (.s (.int .i64 (sl.length - n))) := by
  obtain ⟨h1, h2, h3, h4, h5, h6⟩ := h
  simp only [spRRoom, List.length_map]
  rw [if_pos (by omega)]
theorem rroom_impl : Impl Try.prog 26 spRRoom := by
  refine impl_walk mixed orc0_ok eqT_ok Try.func26 rfl Try.ntmps26 (by kernel_rfl) ?_
  intro xs r h
  unfold spRRoom at h
  simp only at h
  (try split at h) <;> try (cases (show none = some r from h); done)
  rename_i k l f n
  split at h
  case isFalse => cases h
  rename_i hh
  obtain ⟨h1, h2, h3⟩ := hh
  cases h
  refine ⟨by simp, ?_⟩
  have w1 : IntKind.i64.wrap ((l.length : Int) - n) = l.length - n := w_i64 (by omega) (by omega)
  simp only [go_sem, seval, eq_self, reduceCtorEq, w1]
  repeat' ((first | (refine AG_of ?_ ?_ <;> intro h) | (refine AB_of ?_ ?_ <;> intro h) | (refine A_draw_of [] [] (by kernel_rfl) ?_ <;> have h := mark)) <;> simp only [go_sem, seval, eq_self, reduceCtorEq, w1, h])
  all_goals (first | refine fin_ret ?_ | refine fin_normal ?_)
  all_goals simp only [resOf, Try.results26, Try.ntmps26, go_sem, seval, eq_self, reduceCtorEq]

def cR1 : Orc := upd (upd (upd orc0 20 (some spRNew)) 32 (some spRAt)) 26 (some spRRoom)
theorem cR1_ok : ∀ g sp, cR1 g = some sp → Impl Try.prog g sp := orc_upd (orc_upd (orc_upd orc0_ok rnew_impl) rat_impl) rroom_impl
theorem cR1_at : cR1 20 = some spRNew ∧ cR1 32 = some spRAt ∧ cR1 26 = some spRRoom := ⟨rfl, rfl, rfl⟩

def ringX (sl : List (Option Int)) (f n : Int) : V := .obx [.own 1 20 (sl.map slotV), .s (.int .i64 f), .s (.int .i64 n)]
def pushR (sl : List (Option Int)) (f n w : Int) : List (Option Int) := sl.set (placeR sl f n) (some w)
def spRPush : Spec := ⟨[true, false], fun xs => match xs with
  | [.obx [.own 1 20 l, .s (.int .i64 f), .s (.int .i64 n)], .s (.int .u32 w)] => (l.mapM slotOf).bind fun sl => if RingOk sl f n then (if n < sl.length then some (.io 0 (.s (.bool true)) (ringX (pushR sl f n w) f (n + 1))) else some (.io 0 (.s (.bool false)) (ringX sl f n))) else none
  | _ => none⟩
theorem spRPush_mv : spRPush.mv = [true, false] := rfl
theorem spRPush_v {sl : List (Option Int)} {f n : Int} (h : RingOk sl f n) (w : Int) : spRPush.fn [.obx [.own 1 20 (sl.map slotV), .s (.int .i64 f), .s (.int .i64 n)], .s (.int .u32 w)] = if n < sl.length then some (.io 0 (.s (.bool true)) (ringX (pushR sl f n w) f (n + 1))) else some (.io 0 (.s (.bool false)) (ringX sl f n)) := by
  simp only [spRPush, mapM_of slotOf_v, Option.bind_some, if_pos h]
set_option maxHeartbeats 2000000 in
theorem rpush_impl : Impl Try.prog 22 spRPush := by
  refine impl_walk mixed cR1_ok eqT_ok Try.func22 rfl Try.ntmps22 (by kernel_rfl) ?_
  intro xs r h
  unfold spRPush at h
  simp only at h
  (try split at h) <;> try (cases (show none = some r from h); done)
  rename_i l f n w
  obtain ⟨sl, hsl, h2⟩ := Option.bind_eq_some_iff.1 h
  have e := mapM_eq (fun _ _ => slotOf_eq) hsl
  clear h hsl
  subst e
  split at h2
  case isFalse => cases h2
  rename_i hok
  have hsc := scal_slots sl
  have hR := spRRoom_v hok false
  obtain ⟨hl1, hl2, hf0, hf1, hn0, hn1⟩ := hok
  split at h2
  · rename_i hlt
    cases h2
    refine ⟨by simp, ?_⟩
    have g1 : decide ((sl.length : Int) - n < 1) = false := by simp; omega
    have w1 : IntKind.i64.wrap (f + n) = f + n := w_i64 (by omega) (by omega)
    have w2 : IntKind.i64.wrap (n + 1) = n + 1 := w_i64 (by omega) (by omega)
    have hne : ¬ (sl.length : Int) = 0 := by omega
    have hm := place_mod hl1 (f := f) (i := n) (by omega)
    have hq := atR_get hl1 f n
    have hp := place_lt hl1 f n
    have hs2 := scal_slots (pushR sl f n w)
    have hst : (sl.map slotV).set (placeR sl f n) (slotV (some w)) = (pushR sl f n w).map slotV := by unfold pushR; rw [List.map_set]
    obtain ⟨p, hpe⟩ : ∃ p, placeR sl f n = p := ⟨_, rfl⟩
    obtain ⟨sl', hsl'⟩ : ∃ s, pushR sl f n w = s := ⟨_, rfl⟩
    rw [hpe] at hm hq hp hst
    rw [hsl'] at hst hs2 ⊢
    have hln : sl'.length = sl.length := by rw [← hsl']; simp [pushR]
    have z0 := Int.natCast_nonneg p
    have z1 : (p : Int) < sl.length := by omega
    obtain ⟨a, ha⟩ : ∃ a, atR sl f n = a := ⟨_, rfl⟩
    rw [ha] at hq
    simp only [slotV] at hst
    cases a with
    | none =>
      simp only [go_sem, seval, eq_self, reduceCtorEq, cR1_at, spRRoom_mv, hR, g1, w1, w2, hne, hm, hq, z0, z1, hst, nest, slotV, Int.toNat_natCast, List.getElem?_map, List.length_map, List.length_set]
      repeat' ((first | (refine AG_of ?_ ?_ <;> intro h) | (refine AB_of ?_ ?_ <;> intro h) | (refine A_draw_of [] [] (by kernel_rfl) ?_ <;> have h := mark)) <;> simp only [go_sem, seval, eq_self, reduceCtorEq, cR1_at, spRRoom_mv, hR, g1, w1, w2, hne, hm, hq, z0, z1, hst, nest, slotV, Int.toNat_natCast, List.getElem?_map, List.length_map, List.length_set, h])
      all_goals refine fin_io (by first | exact .inl rfl | exact .inr rfl) (by simp [ownAt, V.isOwn]) ?_
      all_goals simp only [ioOf, Try.results22, Try.ntmps22, go_sem, seval, eq_self, reduceCtorEq, nest, hs2, ringX]
    | some v =>
      simp only [go_sem, seval, eq_self, reduceCtorEq, cR1_at, spRRoom_mv, hR, g1, w1, w2, hne, hm, hq, z0, z1, hst, nest, slotV, Int.toNat_natCast, List.getElem?_map, List.length_map, List.length_set]
      repeat' ((first | (refine AG_of ?_ ?_ <;> intro h) | (refine AB_of ?_ ?_ <;> intro h) | (refine A_draw_of [] [] (by kernel_rfl) ?_ <;> have h := mark)) <;> simp only [go_sem, seval, eq_self, reduceCtorEq, cR1_at, spRRoom_mv, hR, g1, w1, w2, hne, hm, hq, z0, z1, hst, nest, slotV, Int.toNat_natCast, List.getElem?_map, List.length_map, List.length_set, h])
      all_goals refine fin_io (by first | exact .inl rfl | exact .inr rfl) (by simp [ownAt, V.isOwn]) ?_
      all_goals simp only [ioOf, Try.results22, Try.ntmps22, go_sem, seval, eq_self, reduceCtorEq, nest, hs2, ringX]
  · rename_i hge
    cases h2
    refine ⟨by simp, ?_⟩
    have g1 : decide ((sl.length : Int) - n < 1) = true := by simp; omega
    simp only [go_sem, seval, eq_self, reduceCtorEq, cR1_at, spRRoom_mv, hR, g1, nest, List.length_map]
    repeat' ((first | (refine AG_of ?_ ?_ <;> intro h) | (refine AB_of ?_ ?_ <;> intro h) | (refine A_draw_of [] [] (by kernel_rfl) ?_ <;> have h := mark)) <;> simp only [go_sem, seval, eq_self, reduceCtorEq, cR1_at, spRRoom_mv, hR, g1, nest, List.length_map, h])
    all_goals refine fin_io (by first | exact .inl rfl | exact .inr rfl) (by simp [ownAt, V.isOwn]) ?_
    all_goals simp only [ioOf, Try.results22, Try.ntmps22, go_sem, seval, eq_self, reduceCtorEq, nest, hsc, ringX]

def spRPop : Spec := ⟨[true], fun xs => match xs with
  | [.obx [.own 1 20 l, .s (.int .i64 f), .s (.int .i64 n)]] => (l.mapM slotOf).bind fun sl => if RingOk sl f n then (match atR sl f 0 with
    | some w => some (.io 0 (.tup [.s (.int .u32 w), .s (.bool true)]) (ringX (sl.set (placeR sl f 0) none) (placeR sl f 1) (n - 1)))
    | none => some (.io 0 (.tup [.s (.int .u32 0), .s (.bool false)]) (ringX sl f n))) else none
  | _ => none⟩
theorem spRPop_mv : spRPop.mv = [true] := rfl
theorem spRPop_v {sl : List (Option Int)} {f n : Int} (h : RingOk sl f n) : spRPop.fn [.obx [.own 1 20 (sl.map slotV), .s (.int .i64 f), .s (.int .i64 n)]] = (match atR sl f 0 with
    | some w => some (.io 0 (.tup [.s (.int .u32 w), .s (.bool true)]) (ringX (sl.set (placeR sl f 0) none) (placeR sl f 1) (n - 1)))
    | none => some (.io 0 (.tup [.s (.int .u32 0), .s (.bool false)]) (ringX sl f n))) := by
  simp only [spRPop, mapM_of slotOf_v, Option.bind_some, if_pos h]
set_option maxHeartbeats 2000000 in
theorem rpop_impl : Impl Try.prog 24 spRPop := by
  refine impl_walk mixed cR1_ok eqT_ok Try.func24 rfl Try.ntmps24 (by kernel_rfl) ?_
  intro xs r h
  unfold spRPop at h
  simp only at h
  (try split at h) <;> try (cases (show none = some r from h); done)
  rename_i l f n
  obtain ⟨sl, hsl, h2⟩ := Option.bind_eq_some_iff.1 h
  have e := mapM_eq (fun _ _ => slotOf_eq) hsl
  clear h hsl
  subst e
  split at h2
  case isFalse => cases h2
  rename_i hok
  have hsc := scal_slots sl
  have hA := spRAt_v hok (i := 0) (by omega) (by omega) false
  obtain ⟨hl1, hl2, hf0, hf1, hn0, hn1⟩ := hok
  have g0 : ((sl.length : Int) == 0) = false := by rw [beq_eq_false_iff_ne]; omega
  have hq := atR_get hl1 f 0
  have hm0 : (placeR sl f 0 : Int) = f := by
    unfold placeR
    rw [Int.add_zero, Int.emod_eq_of_lt hf0 hf1]; omega
  have hm := place_mod hl1 (f := f) (i := 1) (by omega)
  obtain ⟨fk, rfl⟩ : ∃ k : Nat, f = k := ⟨f.toNat, by omega⟩
  have hp0 : placeR sl fk 0 = fk := by omega
  rw [hp0] at hq
  split at h2
  · rename_i w hw
    cases h2
    rw [hw] at hq hA
    refine ⟨by simp, ?_⟩
    have w1 : IntKind.i64.wrap ((fk : Int) + 1) = fk + 1 := w_i64 (by omega) (by omega)
    have w2 : IntKind.i64.wrap (n - 1) = n - 1 := w_i64 (by omega) (by omega)
    have hne : ¬ (sl.length : Int) = 0 := by omega
    rw [hp0]
    have hs2 := scal_slots (sl.set fk none)
    have hst : (sl.map slotV).set fk (slotV none) = (sl.set fk none).map slotV := by rw [List.map_set]
    obtain ⟨p, hpe⟩ : ∃ p, placeR sl fk 1 = p := ⟨_, rfl⟩
    rw [hpe] at hm ⊢
    obtain ⟨sl', hsl'⟩ : ∃ s, sl.set fk none = s := ⟨_, rfl⟩
    rw [hsl'] at hst hs2 ⊢
    have hln : sl'.length = sl.length := by rw [← hsl']; simp
    have z0 := Int.natCast_nonneg fk
    have z1 : (fk : Int) < sl.length := hf1
    simp only [slotV] at hst
    simp only [go_sem, seval, eq_self, reduceCtorEq, cR1_at, spRAt_mv, hA, g0, w1, w2, hne, hm, hq, z0, z1, hst, hln, nest, slotV, Int.toNat_natCast, List.getElem?_map, List.length_map, List.length_set]
    repeat' ((first | (refine AG_of ?_ ?_ <;> intro h) | (refine AB_of ?_ ?_ <;> intro h) | (refine A_draw_of [] [] (by kernel_rfl) ?_ <;> have h := mark)) <;> simp only [go_sem, seval, eq_self, reduceCtorEq, cR1_at, spRAt_mv, hA, g0, w1, w2, hne, hm, hq, z0, z1, hst, hln, nest, slotV, Int.toNat_natCast, List.getElem?_map, List.length_map, List.length_set, h])
    all_goals refine fin_io (by first | exact .inl rfl | exact .inr rfl) (by simp [ownAt, V.isOwn]) ?_
    all_goals simp only [ioOf, Try.results24, Try.ntmps24, go_sem, seval, eq_self, reduceCtorEq, nest, hs2, ringX]
  · rename_i hw
    cases h2
    rw [hw] at hA
    refine ⟨by simp, ?_⟩
    simp only [go_sem, seval, eq_self, reduceCtorEq, cR1_at, spRAt_mv, hA, g0, nest, Option.getD_none, List.length_map]
    repeat' ((first | (refine AG_of ?_ ?_ <;> intro h) | (refine AB_of ?_ ?_ <;> intro h) | (refine A_draw_of [] [] (by kernel_rfl) ?_ <;> have h := mark)) <;> simp only [go_sem, seval, eq_self, reduceCtorEq, cR1_at, spRAt_mv, hA, g0, nest, Option.getD_none, List.length_map, h])
    all_goals refine fin_io (by first | exact .inl rfl | exact .inr rfl) (by simp [ownAt, V.isOwn]) ?_
    all_goals simp only [ioOf, Try.results24, Try.ntmps24, go_sem, seval, eq_self, reduceCtorEq, nest, hsc, ringX]

def uv (n : Int) : V := .s (.int .u32 n)
def u32Of : V → Option Int
  | .s (.int .u32 n) => some n
  | _ => none
theorem u32Of_eq {x : V} {i : Int} (h : u32Of x = some i) : x = uv i := by
  unfold u32Of at h
  split at h
  · cases h; rfl
  · cases h
theorem u32Of_v (n : Int) : u32Of (uv n) = some n := rfl
theorem scal_uv (l : List Int) : (l.map uv).all V.scal = true := by
  rw [List.all_eq_true]; intro x hx; obtain ⟨b, _, rfl⟩ := List.mem_map.1 hx; rfl
/-- a row of words that grows from nothing at a place -/
def RowW (x : V) (b : Nat) (k : Blk) (l : List Int) : Prop :=
  (l = [] ∧ x = .s (.slice none 0 0)) ∨ (l ≠ [] ∧ ∃ v, x = .sw b v l.length ∧ k = ⟨v, .row 1 22 (l.map uv)⟩)
theorem RowW.same {x x' : V} {b : Nat} {k k' : Blk} {l : List Int} (h : RowW x b k l) (hx : x' = x) (hk : k' = k) : RowW x' b k' l := by rw [hx, hk]; exact h
def wordsR (sl : List (Option Int)) (f : Int) (n : Nat) : List Int := (List.range n).filterMap fun i => atR sl f (i : Nat)
theorem wordsR_succ (sl : List (Option Int)) (f : Int) (n : Nat) : wordsR sl f (n + 1) = wordsR sl f n ++ (atR sl f n).toList := by
  unfold wordsR
  rw [List.range_succ, List.filterMap_append]
  cases h : atR sl f n <;> simp [h]
theorem wordsR_len (sl : List (Option Int)) (f : Int) (n : Nat) : (wordsR sl f n).length ≤ n := by
  unfold wordsR
  have := List.length_filterMap_le (fun i => atR sl f (i : Nat)) (List.range n)
  rw [List.length_range] at this
  exact this
def spRAll : Spec := ⟨[], fun xs => match xs with
  | [.ept [.lst _ 1 l, .s (.int .i64 f), .s (.int .i64 n)]] => (l.mapM slotOf).bind fun sl => if RingOk sl f n then some (ownOr 22 ((wordsR sl f n.toNat).map uv)) else none
  | _ => none⟩
theorem spRAll_mv : spRAll.mv = [] := rfl
theorem spRAll_v {sl : List (Option Int)} {f n : Int} (h : RingOk sl f n) (k : Bool) : spRAll.fn [.ept [.lst k 1 (sl.map slotV), .s (.int .i64 f), .s (.int .i64 n)]] = some (ownOr 22 ((wordsR sl f n.toNat).map uv)) := by
  simp only [spRAll, mapM_of slotOf_v, Option.bind_some, if_pos h]
def rallI (b : Bool) (sl : List (Option Int)) (f n : Int) (s : S) : Prop :=
  s.env 0 = .ept [.lst b 1 (sl.map slotV), .s (.int .i64 f), .s (.int .i64 n)] ∧ s.env 12 = .s (.int .i64 n) ∧ ∃ k : Nat, s.env 13 = .s (.int .i64 k) ∧ (k : Int) ≤ n ∧ RowW (s.env 3) 26 (s.st 26) (wordsR sl f k)
set_option maxHeartbeats 2000000 in
theorem rall_impl : Impl Try.prog 29 spRAll := by
  refine impl_walk mixed cR1_ok eqT_ok Try.func29 rfl Try.ntmps29 (by kernel_rfl) ?_
  intro xs r h
  unfold spRAll at h
  simp only at h
  (try split at h) <;> try (cases (show none = some r from h); done)
  rename_i b l f n
  obtain ⟨sl, hsl, h2⟩ := Option.bind_eq_some_iff.1 h
  have e := mapM_eq (fun _ _ => slotOf_eq) hsl
  clear h hsl
  subst e
  split at h2
  case isFalse => cases h2
  rename_i hok
  cases h2
  refine ⟨by simp, ?_⟩
  simp only [go_sem, seval, eq_self, reduceCtorEq]
  repeat' ((first | (refine AG_of ?_ ?_ <;> intro h) | (refine AB_of ?_ ?_ <;> intro h) | (refine A_draw_of [] [] (by kernel_rfl) ?_ <;> have h := mark)) <;> simp only [go_sem, seval, eq_self, reduceCtorEq, h])
  refine A_loop (rallI b sl f n) (fun s => n.toNat - (numOf (s.env 13)).toNat) ?_ ?_
  · obtain ⟨hl1, hl2, hf0, hf1, hn0, hn1⟩ := hok
    refine ⟨by simp [upd, init, V.unfr, V.unfrL], by simp [upd], 0, by simp [upd], by omega, .inl ⟨rfl, by simp [upd]⟩⟩
  intro s hs
  obtain ⟨e0, e12, k, e13, hk, hr⟩ := hs
  have hkn : n.toNat = n := by obtain ⟨hl1, hl2, hf0, hf1, hn0, hn1⟩ := hok; omega
  have hn64 : n ≤ 64 := by obtain ⟨hl1, hl2, hf0, hf1, hn0, hn1⟩ := hok; omega
  rcases (show (k : Int) < n ∨ n ≤ (k : Int) by omega) with hlt | hge
  · have g0 : decide ((k : Int) < n) = true := by simp [hlt]
    have z0 := Int.natCast_nonneg k
    have n2 : IntKind.i64.wrap ((k : Int) + 1) = (k + 1 : Nat) := by rw [w_i64 (by omega) (by omega)]; omega
    have hA := spRAt_v hok (i := k) (by omega) (by omega) b
    have hws := wordsR_succ sl f k
    have hwl := wordsR_len sl f k
    cases ha : atR sl f k with
    | none =>
      rw [ha] at hA hws
      simp only [Option.toList_none, List.append_nil] at hws
      simp only [go_sem, seval, eq_self, reduceCtorEq, e0, e12, e13, g0, z0, n2, cR1_at, spRAt_mv, hA, Option.getD_none]
      repeat' ((first | (refine AG_of ?_ ?_ <;> intro h) | (refine AB_of ?_ ?_ <;> intro h) | (refine A_draw_of [] [] (by kernel_rfl) ?_ <;> have h := mark)) <;> simp only [go_sem, seval, eq_self, reduceCtorEq, e0, e12, e13, g0, z0, n2, cR1_at, spRAt_mv, hA, Option.getD_none, h])
      exact ⟨⟨by simp [upd, e0], by simp [upd, e12], k + 1, by simp [upd], by omega, by rw [hws]; exact hr.same (by simp [upd]) (by simp [upd])⟩, by simp [upd, numOf, e13]; omega⟩
    | some w =>
      rw [ha] at hA hws
      simp only [Option.toList_some] at hws
      obtain ⟨lw, hlw⟩ : ∃ lw, wordsR sl f k = lw := ⟨_, rfl⟩
      rw [hlw] at hws hr hwl
      rcases hr with ⟨hl0, hx⟩ | ⟨hl0, v, hx, hb⟩
      ·
        simp only [go_sem, seval, eq_self, reduceCtorEq, e0, e12, e13, g0, z0, n2, hx, cR1_at, spRAt_mv, hA]
        repeat' ((first | (refine AG_of ?_ ?_ <;> intro h) | (refine AB_of ?_ ?_ <;> intro h) | (refine A_draw_of [] [] (by kernel_rfl) ?_ <;> have h := mark)) <;> simp only [go_sem, seval, eq_self, reduceCtorEq, e0, e12, e13, g0, z0, n2, hx, cR1_at, spRAt_mv, hA, h])
        exact ⟨⟨by simp [upd, e0], by simp [upd, e12], k + 1, by simp [upd], by omega, by rw [hws, hl0]; exact .inr ⟨by simp, (s.st 26).ver + 1, by simp [upd], by simp [upd, uv]⟩⟩, by simp [upd, numOf, e13]; omega⟩
      · have fl : (lw.length + 1) * 4 ≤ 140737488355328 := by omega
        simp only [go_sem, seval, eq_self, reduceCtorEq, e0, e12, e13, g0, z0, n2, hx, hb, fl, cR1_at, spRAt_mv, hA, List.length_map]
        repeat' ((first | (refine AG_of ?_ ?_ <;> intro h) | (refine AB_of ?_ ?_ <;> intro h) | (refine A_draw_of [] [] (by kernel_rfl) ?_ <;> have h := mark)) <;> simp only [go_sem, seval, eq_self, reduceCtorEq, e0, e12, e13, g0, z0, n2, hx, hb, fl, cR1_at, spRAt_mv, hA, List.length_map, h])
        exact ⟨⟨by simp [upd, e0], by simp [upd, e12], k + 1, by simp [upd], by omega, by rw [hws]; exact .inr ⟨by simp, v + 1, by simp [upd], by simp [upd, uv]⟩⟩, by simp [upd, numOf, e13]; omega⟩
  · have g0 : decide ((k : Int) < n) = false := by simp; omega
    have hkn2 : k = n.toNat := by omega
    rw [hkn2] at hr
    obtain ⟨lw, hlw⟩ : ∃ lw, wordsR sl f n.toNat = lw := ⟨_, rfl⟩
    rw [hlw] at hr ⊢
    rcases hr with ⟨hl0, hx⟩ | ⟨hl0, v, hx, hb⟩
    · subst hl0
      simp only [go_sem, seval, eq_self, reduceCtorEq, e0, e12, e13, g0, hx]
      repeat' ((first | (refine AG_of ?_ ?_ <;> intro h) | (refine AB_of ?_ ?_ <;> intro h) | (refine A_draw_of [] [] (by kernel_rfl) ?_ <;> have h := mark)) <;> simp only [go_sem, seval, eq_self, reduceCtorEq, e0, e12, e13, g0, hx, h])
      all_goals (first | refine fin_ret ?_ | refine fin_normal ?_)
      all_goals simp only [resOf, Try.results29, Try.ntmps29, go_sem, seval, eq_self, reduceCtorEq, ownOr]
    · have ho : ownOr 22 (lw.map uv) = .own 1 22 (lw.map uv) := by
        cases lw with
        | nil => exact absurd rfl hl0
        | cons a b => rfl
      rw [ho]
      simp only [go_sem, seval, eq_self, reduceCtorEq, e0, e12, e13, g0, hx]
      repeat' ((first | (refine AG_of ?_ ?_ <;> intro h) | (refine AB_of ?_ ?_ <;> intro h) | (refine A_draw_of [] [] (by kernel_rfl) ?_ <;> have h := mark)) <;> simp only [go_sem, seval, eq_self, reduceCtorEq, e0, e12, e13, g0, hx, h])
      all_goals (first | refine fin_ret ?_ | refine fin_normal ?_)
      all_goals simp only [resOf, Try.results29, Try.ntmps29, go_sem, seval, eq_self, reduceCtorEq, hx, hb]
end Go.Proofs.Ytgamljjoehncbaa
