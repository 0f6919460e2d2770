/-
The reference's queue by the plain reckoning; when lists of words are the same; the example of chapter 15. No condition.
-/
import Derived.Test.YtgamljjoehncbaaRa
namespace Go.Proofs.Ytgamljjoehncbaa
set_option linter.unusedSimpArgs false
set_option linter.unusedVariables false

/-- what a queue of the reference holds: nothing, or a row -/
def wordsOf : V → Option (List Int)
  | .s (.slice none 0 0) => some []
  | .own 1 22 l => l.mapM u32Of
  | _ => none
theorem wordsOf_cases {x : V} {l : List Int} (h : wordsOf x = some l) : (x = .s (.slice none 0 0) ∧ l = []) ∨ x = .own 1 22 (l.map uv) := by
  unfold wordsOf at h
  split at h
  · cases h; exact .inl ⟨rfl, rfl⟩
  · exact .inr (by rw [mapM_eq (fun _ _ => u32Of_eq) h])
  · cases h
theorem wordsOf_own (l : List Int) : wordsOf (.own 1 22 (l.map uv)) = some l := by
  show (l.map uv).mapM u32Of = _
  rw [mapM_of u32Of_v]

def spCap : Spec := ⟨[], fun xs => match xs with
  | [.s (.int .i64 n), .s (.int .i64 lo), .s (.int .i64 hi)] => some (.s (.int .i64 (if n < lo then lo else if hi < n then hi else n)))
  | _ => none⟩
theorem spCap_mv : spCap.mv = [] := rfl
theorem spCap_fn (n : Int) : spCap.fn [.s (.int .i64 n), .s (.int .i64 1), .s (.int .i64 64)] = some (.s (.int .i64 (capN n))) := rfl
theorem cap_impl : Impl Try.prog 31 spCap := by
  refine impl_walk mixed orc0_ok eqT_ok Try.func31 rfl Try.ntmps31 (by kernel_rfl) ?_
  intro xs r h
  unfold spCap at h
  simp only at h
  (try split at h) <;> try (cases (show none = some r from h); done)
  rename_i n lo hi
  cases h
  refine ⟨by simp, ?_⟩
  simp only [go_sem, seval, eq_self, reduceCtorEq]
  repeat' ((first | (refine AG_of ?_ ?_ <;> intro h) | (refine AB_of ?_ ?_ <;> intro h) | (refine A_draw_of [] [] (by kernel_rfl) ?_ <;> have h := mark)) <;> simp only [go_sem, seval, eq_self, reduceCtorEq, h])
  all_goals (first | refine fin_ret ?_ | refine fin_normal ?_)
  all_goals simp only [resOf, Try.results31, Try.ntmps31, go_sem, seval, eq_self, reduceCtorEq]
  all_goals (simp at *; try (repeat' split) <;> omega)
def cR2 : Orc := upd (upd (upd (upd cR1 22 (some spRPush)) 24 (some spRPop)) 29 (some spRAll)) 31 (some spCap)
theorem cR2_ok : ∀ g sp, cR2 g = some sp → Impl Try.prog g sp := orc_upd (orc_upd (orc_upd (orc_upd cR1_ok rpush_impl) rpop_impl) rall_impl) cap_impl
theorem cR2_at : cR2 31 = some spCap ∧ cR2 20 = some spRNew ∧ cR2 26 = some spRRoom ∧ cR2 22 = some spRPush ∧ cR2 24 = some spRPop ∧ cR2 29 = some spRAll := ⟨rfl, rfl, rfl, rfl, rfl, rfl⟩

def spQNew : Spec := ⟨[], fun xs => match xs with
  | [.s (.int .i64 n)] => some (.obx [.s (.int .i64 (capN n)), .s (.slice none 0 0)])
  | _ => none⟩
theorem spQNew_mv : spQNew.mv = [] := rfl
theorem spQNew_fn (n : Int) : spQNew.fn [.s (.int .i64 n)] = some (.obx [.s (.int .i64 (capN n)), .s (.slice none 0 0)]) := rfl
theorem qnew_impl : Impl Try.prog 21 spQNew := by
  refine impl_walk mixed cR2_ok eqT_ok Try.func21 rfl Try.ntmps21 (by kernel_rfl) ?_
  intro xs r h
  unfold spQNew at h
  simp only at h
  (try split at h) <;> try (cases (show none = some r from h); done)
  rename_i n
  cases h
  refine ⟨by simp, ?_⟩
  simp only [go_sem, seval, eq_self, reduceCtorEq, cR2_at, spCap_mv, spCap_fn]
  repeat' ((first | (refine AG_of ?_ ?_ <;> intro h) | (refine AB_of ?_ ?_ <;> intro h) | (refine A_draw_of [] [] (by kernel_rfl) ?_ <;> have h := mark)) <;> simp only [go_sem, seval, eq_self, reduceCtorEq, cR2_at, spCap_mv, spCap_fn, h])
  all_goals (first | refine fin_ret ?_ | refine fin_normal ?_)
  all_goals simp only [resOf, Try.results21, Try.ntmps21, go_sem, seval, eq_self, reduceCtorEq]

def queX (c : Int) (l : List Int) : V := .obx [.s (.int .i64 c), .own 1 22 (l.map uv)]
def spQPush : Spec := ⟨[true, false], fun xs => match xs with
  | [.obx [.s (.int .i64 c), x], .s (.int .u32 w)] => (wordsOf x).bind fun l => if l.length ≤ 1000 then (if c ≤ l.length then some (.io 0 (.s (.bool false)) (.obx [.s (.int .i64 c), x])) else some (.io 0 (.s (.bool true)) (queX c (l ++ [w])))) else none
  | _ => none⟩
theorem spQPush_mv : spQPush.mv = [true, false] := rfl
set_option maxHeartbeats 1000000 in
theorem qpush_impl : Impl Try.prog 23 spQPush := by
  refine impl_walk mixed cR2_ok eqT_ok Try.func23 rfl Try.ntmps23 (by kernel_rfl) ?_
  intro xs r h
  unfold spQPush at h
  simp only at h
  (try split at h) <;> try (cases (show none = some r from h); done)
  rename_i c x w
  obtain ⟨l, hl, h2⟩ := Option.bind_eq_some_iff.1 h
  clear h
  split at h2
  case isFalse => cases h2
  rename_i hlen
  have hsc := scal_uv l
  have hap : (l ++ [w]).map uv = l.map uv ++ [.s (.int .u32 w)] := by simp [uv]
  have f1 : (l.length + 1) * 4 ≤ 140737488355328 := by omega
  split at h2
  · rename_i hc
    cases h2
    rcases wordsOf_cases hl with ⟨rfl, rfl⟩ | rfl
    · refine ⟨by simp, ?_⟩
      have g0 : decide (c ≤ 0) = true := by simpa using hc
      simp only [go_sem, seval, eq_self, reduceCtorEq, g0, nest]
      repeat' ((first | (refine AG_of ?_ ?_ <;> intro h) | (refine AB_of ?_ ?_ <;> intro h) | (refine A_draw_of [] [] (by kernel_rfl) ?_ <;> have h := mark)) <;> simp only [go_sem, seval, eq_self, reduceCtorEq, g0, nest, h])
      all_goals refine fin_io (by first | exact .inl rfl | exact .inr rfl) (by simp [ownAt, V.isOwn]) ?_
      all_goals simp only [ioOf, Try.results23, Try.ntmps23, go_sem, seval, eq_self, reduceCtorEq, nest]
    · refine ⟨by simp, ?_⟩
      have g0 : decide (c ≤ (l.length : Int)) = true := by simpa using hc
      simp only [go_sem, seval, eq_self, reduceCtorEq, g0, nest, List.length_map]
      repeat' ((first | (refine AG_of ?_ ?_ <;> intro h) | (refine AB_of ?_ ?_ <;> intro h) | (refine A_draw_of [] [] (by kernel_rfl) ?_ <;> have h := mark)) <;> simp only [go_sem, seval, eq_self, reduceCtorEq, g0, nest, List.length_map, h])
      all_goals refine fin_io (by first | exact .inl rfl | exact .inr rfl) (by simp [ownAt, V.isOwn]) ?_
      all_goals simp only [ioOf, Try.results23, Try.ntmps23, go_sem, seval, eq_self, reduceCtorEq, nest, hsc]
  · rename_i hc
    cases h2
    rcases wordsOf_cases hl with ⟨rfl, rfl⟩ | rfl
    · refine ⟨by simp, ?_⟩
      have g0 : decide (c ≤ 0) = false := by simpa using hc
      simp only [go_sem, seval, eq_self, reduceCtorEq, g0, nest]
      repeat' ((first | (refine AG_of ?_ ?_ <;> intro h) | (refine AB_of ?_ ?_ <;> intro h) | (refine A_draw_of [] [] (by kernel_rfl) ?_ <;> have h := mark)) <;> simp only [go_sem, seval, eq_self, reduceCtorEq, g0, nest, h])
      all_goals refine fin_io (by first | exact .inl rfl | exact .inr rfl) (by simp [ownAt, V.isOwn]) ?_
      all_goals simp only [ioOf, Try.results23, Try.ntmps23, go_sem, seval, eq_self, reduceCtorEq, nest, queX, uv]
    · refine ⟨by simp, ?_⟩
      have g0 : decide (c ≤ (l.length : Int)) = false := by simpa using hc
      obtain ⟨lv, hlv⟩ : ∃ lv, l.map uv = lv := ⟨_, rfl⟩
      have hll : lv.length = l.length := by rw [← hlv, List.length_map]
      unfold queX
      rw [hap]
      rw [hlv] at hsc ⊢
      simp only [go_sem, seval, eq_self, reduceCtorEq, g0, f1, nest, hll]
      repeat' ((first | (refine AG_of ?_ ?_ <;> intro h) | (refine AB_of ?_ ?_ <;> intro h) | (refine A_draw_of [] [] (by kernel_rfl) ?_ <;> have h := mark)) <;> simp only [go_sem, seval, eq_self, reduceCtorEq, g0, f1, nest, hll, h])
      all_goals refine fin_io (by first | exact .inl rfl | exact .inr rfl) (by simp [ownAt, V.isOwn]) ?_
      all_goals simp only [ioOf, Try.results23, Try.ntmps23, go_sem, seval, eq_self, reduceCtorEq, nest, hsc, List.all_append]

def spQPop : Spec := ⟨[true], fun xs => match xs with
  | [.obx [.s (.int .i64 c), x]] => (wordsOf x).bind fun l => match l with
    | [] => some (.io 0 (.tup [.s (.int .u32 0), .s (.bool false)]) (.obx [.s (.int .i64 c), x]))
    | w :: r => some (.io 0 (.tup [.s (.int .u32 w), .s (.bool true)]) (queX c r))
  | _ => none⟩
theorem spQPop_mv : spQPop.mv = [true] := rfl
set_option maxHeartbeats 1000000 in
theorem qpop_impl : Impl Try.prog 25 spQPop := by
  refine impl_walk mixed cR2_ok eqT_ok Try.func25 rfl Try.ntmps25 (by kernel_rfl) ?_
  intro xs r h
  unfold spQPop at h
  simp only at h
  (try split at h) <;> try (cases (show none = some r from h); done)
  rename_i c x
  obtain ⟨l, hl, h2⟩ := Option.bind_eq_some_iff.1 h
  clear h
  cases l with
  | nil =>
    cases h2
    rcases wordsOf_cases hl with ⟨rfl, _⟩ | rfl
    · refine ⟨by simp, ?_⟩
      simp only [go_sem, seval, eq_self, reduceCtorEq, nest]
      repeat' ((first | (refine AG_of ?_ ?_ <;> intro h) | (refine AB_of ?_ ?_ <;> intro h) | (refine A_draw_of [] [] (by kernel_rfl) ?_ <;> have h := mark)) <;> simp only [go_sem, seval, eq_self, reduceCtorEq, nest, h])
      all_goals refine fin_io (by first | exact .inl rfl | exact .inr rfl) (by simp [ownAt, V.isOwn]) ?_
      all_goals simp only [ioOf, Try.results25, Try.ntmps25, go_sem, seval, eq_self, reduceCtorEq, nest]
    · refine ⟨by simp, ?_⟩
      simp only [go_sem, seval, eq_self, reduceCtorEq, nest]
      repeat' ((first | (refine AG_of ?_ ?_ <;> intro h) | (refine AB_of ?_ ?_ <;> intro h) | (refine A_draw_of [] [] (by kernel_rfl) ?_ <;> have h := mark)) <;> simp only [go_sem, seval, eq_self, reduceCtorEq, nest, h])
      all_goals refine fin_io (by first | exact .inl rfl | exact .inr rfl) (by simp [ownAt, V.isOwn]) ?_
      all_goals simp only [ioOf, Try.results25, Try.ntmps25, go_sem, seval, eq_self, reduceCtorEq, nest]
  | cons w r =>
    cases h2
    rcases wordsOf_cases hl with ⟨rfl, h0⟩ | rfl
    · cases h0
    refine ⟨by simp, ?_⟩
    have hsc := scal_uv r
    have g0 : (((r.length + 1 : Nat) : Int) == 0) = false := by rw [beq_eq_false_iff_ne]; omega
    have g1 : (1 : Int) ≤ ((r.length + 1 : Nat) : Int) := by omega
    have g2 : (0 : Int) < ((r.length + 1 : Nat) : Int) := by omega
    have g3 : r.length + 1 - 1 = r.length := by omega
    have g4 : 1 + r.length ≤ r.length + 1 := by omega
    obtain ⟨lv, hlv⟩ : ∃ lv, r.map uv = lv := ⟨_, rfl⟩
    have hll : lv.length = r.length := by rw [← hlv, List.length_map]
    have g5 : List.take r.length lv = lv := by rw [← hll, List.take_length]
    unfold queX
    rw [List.map_cons, hlv]
    rw [hlv] at hsc
    simp only [go_sem, seval, eq_self, reduceCtorEq, g0, g1, g2, g3, g4, g5, nest, hll, uv, Int.toNat_natCast]
    repeat' ((first | (refine AG_of ?_ ?_ <;> intro h) | (refine AB_of ?_ ?_ <;> intro h) | (refine A_draw_of [] [] (by kernel_rfl) ?_ <;> have h := mark)) <;> simp only [go_sem, seval, eq_self, reduceCtorEq, g0, g1, g2, g3, g4, g5, nest, hll, uv, Int.toNat_natCast, h])
    all_goals refine fin_io (by first | exact .inl rfl | exact .inr rfl) (by simp [ownAt, V.isOwn]) ?_
    all_goals simp only [ioOf, Try.results25, Try.ntmps25, go_sem, seval, eq_self, reduceCtorEq, nest, hsc, g3, g4, g5, hll]

def spQRoom : Spec := ⟨[], fun xs => match xs with
  | [.ept [.s (.int .i64 c), x]] => (lOf 1 x).bind fun l => if l.length ≤ 1000 ∧ 0 ≤ c ∧ c ≤ 1000 then some (.s (.int .i64 (c - l.length))) else none
  | _ => none⟩
theorem spQRoom_mv : spQRoom.mv = [] := rfl
theorem qroom_impl : Impl Try.prog 27 spQRoom := by
  refine impl_walk mixed cR2_ok eqT_ok Try.func27 rfl Try.ntmps27 (by kernel_rfl) ?_
  intro xs r h
  unfold spQRoom at h
  simp only at h
  (try split at h) <;> try (cases (show none = some r from h); done)
  rename_i c x
  obtain ⟨l, hl, h2⟩ := Option.bind_eq_some_iff.1 h
  clear h
  split at h2
  case isFalse => cases h2
  rename_i hh
  obtain ⟨h1, h3, h4⟩ := hh
  cases h2
  refine ⟨by simp, ?_⟩
  unfold lOf at hl
  split at hl
  · split at hl
    · cases hl
      have w1 : IntKind.i64.wrap (c - (l.length : Int)) = c - l.length := w_i64 (by omega) (by omega)
      simp only [go_sem, seval, eq_self, reduceCtorEq, w1]
      repeat' ((first | (refine AG_of ?_ ?_ <;> intro h) | (refine AB_of ?_ ?_ <;> intro h) | (refine A_draw_of [] [] (by kernel_rfl) ?_ <;> have h := mark)) <;> simp only [go_sem, seval, eq_self, reduceCtorEq, w1, h])
      all_goals (first | refine fin_ret ?_ | refine fin_normal ?_)
      all_goals simp only [resOf, Try.results27, Try.ntmps27, go_sem, seval, eq_self, reduceCtorEq]
    · cases hl
  · cases hl
    have w1 : IntKind.i64.wrap (c - 0) = c := by rw [w_i64 (by omega) (by omega)]; omega
    simp only [go_sem, seval, eq_self, reduceCtorEq, w1]
    repeat' ((first | (refine AG_of ?_ ?_ <;> intro h) | (refine AB_of ?_ ?_ <;> intro h) | (refine A_draw_of [] [] (by kernel_rfl) ?_ <;> have h := mark)) <;> simp only [go_sem, seval, eq_self, reduceCtorEq, w1, h])
    all_goals (first | refine fin_ret ?_ | refine fin_normal ?_)
    all_goals simp only [resOf, Try.results27, Try.ntmps27, go_sem, seval, eq_self, reduceCtorEq]
    all_goals simp
  · cases hl
def spQAll : Spec := ⟨[], fun xs => match xs with
  | [.ept [.s (.int .i64 _), x]] => (lOf 1 x).bind fun l => (l.mapM u32Of).bind fun c => if c.length ≤ 1000 then some (.own 1 22 (c.map uv)) else none
  | _ => none⟩
theorem spQAll_mv : spQAll.mv = [] := rfl
theorem qall_impl : Impl Try.prog 30 spQAll := by
  refine impl_walk mixed cR2_ok eqT_ok Try.func30 rfl Try.ntmps30 (by kernel_rfl) ?_
  intro xs r h
  unfold spQAll at h
  simp only at h
  (try split at h) <;> try (cases (show none = some r from h); done)
  rename_i c x
  obtain ⟨l, hl, h2⟩ := Option.bind_eq_some_iff.1 h
  obtain ⟨d, hd, h3⟩ := Option.bind_eq_some_iff.1 h2
  clear h h2
  split at h3
  case isFalse => cases h3
  rename_i hh
  have e := mapM_eq (fun _ _ => u32Of_eq) hd
  subst e
  cases h3
  have hsc := scal_uv d
  have f1 : d.length * 4 ≤ 140737488355328 := by omega
  refine ⟨by simp, ?_⟩
  unfold lOf at hl
  split at hl
  · split at hl
    · rename_i hsz
      simp only [Option.some.injEq] at hl
      subst hsz
      subst hl
      simp only [go_sem, seval, eq_self, reduceCtorEq, f1, hsc, List.length_map]
      repeat' ((first | (refine AG_of ?_ ?_ <;> intro h) | (refine AB_of ?_ ?_ <;> intro h) | (refine A_draw_of [] [] (by kernel_rfl) ?_ <;> have h := mark)) <;> simp only [go_sem, seval, eq_self, reduceCtorEq, f1, hsc, List.length_map, h])
      all_goals (first | refine fin_ret ?_ | refine fin_normal ?_)
      all_goals simp only [resOf, Try.results30, Try.ntmps30, go_sem, seval, eq_self, reduceCtorEq]
    · cases hl
  · simp only [Option.some.injEq] at hl
    have hd0 : d = [] := by cases d with | nil => rfl | cons a b => simp at hl
    subst hd0
    simp only [go_sem, seval, eq_self, reduceCtorEq]
    repeat' ((first | (refine AG_of ?_ ?_ <;> intro h) | (refine AB_of ?_ ?_ <;> intro h) | (refine A_draw_of [] [] (by kernel_rfl) ?_ <;> have h := mark)) <;> simp only [go_sem, seval, eq_self, reduceCtorEq, h])
    all_goals (first | refine fin_ret ?_ | refine fin_normal ?_)
    all_goals simp only [resOf, Try.results30, Try.ntmps30, go_sem, seval, eq_self, reduceCtorEq]
  · cases hl

def spSameW : Spec := ⟨[], fun xs => match xs with
  | [x, y] => (lOf 1 x).bind fun l => (l.mapM u32Of).bind fun a => (lOf 1 y).bind fun m => (m.mapM u32Of).bind fun b => if a.length ≤ 1000000000 ∧ b.length ≤ 1000000000 then some (.s (.bool (decide (a = b)))) else none
  | _ => none⟩
theorem spSameW_mv : spSameW.mv = [] := rfl
theorem take_eq_get {α : Type} {a b : List α} {k : Nat} {x y : α} (h : a.take k = b.take k) (hx : a[k]? = some x) (hy : b[k]? = some y) (e : x = y) : a.take (k + 1) = b.take (k + 1) := by
  rw [List.take_add_one, List.take_add_one, h, hx, hy, e]
def sameWI (a b : List Int) (s : S) : Prop := s.env 0 = .lst false 1 (a.map uv) ∧ s.env 1 = .lst false 1 (b.map uv) ∧ ∃ k : Nat, s.env 5 = .s (.int .i64 k) ∧ k ≤ a.length ∧ a.take k = b.take k
set_option maxHeartbeats 1000000 in
theorem sameW_impl : Impl Try.prog 33 spSameW := by
  refine impl_walk2 mixed cR2_ok eqT_ok Try.func33 rfl Try.ntmps33 (by kernel_rfl) ?_
  intro xs r h
  unfold spSameW at h
  simp only at h
  (try split at h) <;> try (cases (show none = some r from h); done)
  rename_i x y
  obtain ⟨l, hl, h3⟩ := Option.bind_eq_some_iff.1 h
  obtain ⟨a, ha, h4⟩ := Option.bind_eq_some_iff.1 h3
  obtain ⟨m, hm, h5⟩ := Option.bind_eq_some_iff.1 h4
  obtain ⟨b, hb, h6⟩ := Option.bind_eq_some_iff.1 h5
  clear h h3 h4 h5
  have e1 := mapM_eq (fun _ _ => u32Of_eq) ha
  have e2 := mapM_eq (fun _ _ => u32Of_eq) hb
  subst e1
  subst e2
  split at h6
  case isFalse => cases h6
  rename_i hh
  obtain ⟨hla, hlb⟩ := hh
  cases h6
  refine ⟨_, (SeesL.cons (lOf_sees hl) (.cons (lOf_sees hm) .nil)).args, by simp, ?_⟩
  by_cases hab : a.length = b.length
  case neg =>
    have g0 : ((a.length : Int) != (b.length : Int)) = true := by simp; omega
    have e : decide (a = b) = false := by simp; rintro rfl; exact hab rfl
    rw [e]
    simp only [go_sem, seval, eq_self, reduceCtorEq, g0, List.length_map]
    repeat' ((first | (refine AG_of ?_ ?_ <;> intro h) | (refine AB_of ?_ ?_ <;> intro h) | (refine A_draw_of [] [] (by kernel_rfl) ?_ <;> have h := mark)) <;> simp only [go_sem, seval, eq_self, reduceCtorEq, g0, List.length_map, h])
    all_goals (first | refine fin_ret ?_ | refine fin_normal ?_)
    all_goals simp only [resOf, Try.results33, Try.ntmps33, go_sem, seval, eq_self, reduceCtorEq]
  have g0 : ((a.length : Int) != (b.length : Int)) = false := by simp [hab]
  simp only [go_sem, seval, eq_self, reduceCtorEq, g0, List.length_map]
  repeat' ((first | (refine AG_of ?_ ?_ <;> intro h) | (refine AB_of ?_ ?_ <;> intro h) | (refine A_draw_of [] [] (by kernel_rfl) ?_ <;> have h := mark)) <;> simp only [go_sem, seval, eq_self, reduceCtorEq, g0, List.length_map, h])
  refine A_loop (sameWI a b) (fun s => a.length - (numOf (s.env 5)).toNat) ?_ ?_
  · refine ⟨by simp [upd, init, V.unfr], by simp [upd, init, V.unfr], 0, by simp [upd], by omega, by simp⟩
  intro s hs
  obtain ⟨e0, e1, k, ek, hk, htk⟩ := hs
  rcases Nat.lt_or_ge k a.length with hlt | hge
  · obtain ⟨u, q⟩ : ∃ i, a[k]? = some i := ⟨a[k], List.getElem?_eq_getElem hlt⟩
    obtain ⟨v, q'⟩ : ∃ i, b[k]? = some i := ⟨b[k]'(by omega), List.getElem?_eq_getElem (by omega)⟩
    have f0 : decide ((k : Int) < a.length) = true := by simp; omega
    have z0 := Int.natCast_nonneg k
    have n2 : IntKind.i64.wrap ((k : Int) + 1) = (k + 1 : Nat) := by rw [w_i64 (by omega) (by omega)]; omega
    cases hq : (u != v)
    · have hq2 : u = v := by simpa using hq
      simp only [go_sem, seval, eq_self, reduceCtorEq, e0, e1, ek, q, q', f0, z0, n2, hq, uv, Int.toNat_natCast, List.getElem?_map, List.length_map]
      repeat' ((first | (refine AG_of ?_ ?_ <;> intro h) | (refine AB_of ?_ ?_ <;> intro h) | (refine A_draw_of [] [] (by kernel_rfl) ?_ <;> have h := mark)) <;> simp only [go_sem, seval, eq_self, reduceCtorEq, e0, e1, ek, q, q', f0, z0, n2, hq, uv, Int.toNat_natCast, List.getElem?_map, List.length_map, h])
      exact ⟨⟨by simp [upd, e0, uv], by simp [upd, e1, uv], k + 1, by simp [upd], by omega, take_eq_get htk q q' hq2⟩, by simp [upd, numOf, ek]; omega⟩
    · have hq2 : u ≠ v := by simpa using hq
      have e : decide (a = b) = false := by
        simp only [decide_eq_false_iff_not]
        rintro rfl
        rw [q] at q'
        exact hq2 (Option.some.inj q')
      rw [e]
      simp only [go_sem, seval, eq_self, reduceCtorEq, e0, e1, ek, q, q', f0, z0, n2, hq, uv, Int.toNat_natCast, List.getElem?_map, List.length_map]
      repeat' ((first | (refine AG_of ?_ ?_ <;> intro h) | (refine AB_of ?_ ?_ <;> intro h) | (refine A_draw_of [] [] (by kernel_rfl) ?_ <;> have h := mark)) <;> simp only [go_sem, seval, eq_self, reduceCtorEq, e0, e1, ek, q, q', f0, z0, n2, hq, uv, Int.toNat_natCast, List.getElem?_map, List.length_map, h])
      all_goals (first | refine fin_ret ?_ | refine fin_normal ?_)
      all_goals simp only [resOf, Try.results33, Try.ntmps33, go_sem, seval, eq_self, reduceCtorEq]
  · have hkl : k = a.length := by omega
    have f0 : decide ((k : Int) < a.length) = false := by simp; omega
    rw [hkl, List.take_length, hab, List.take_length] at htk
    have e : decide (a = b) = true := by simp [htk]
    rw [e]
    simp only [go_sem, seval, eq_self, reduceCtorEq, e0, e1, ek, f0, List.length_map]
    repeat' ((first | (refine AG_of ?_ ?_ <;> intro h) | (refine AB_of ?_ ?_ <;> intro h) | (refine A_draw_of [] [] (by kernel_rfl) ?_ <;> have h := mark)) <;> simp only [go_sem, seval, eq_self, reduceCtorEq, e0, e1, ek, f0, List.length_map, h])
    all_goals (first | refine fin_ret ?_ | refine fin_normal ?_)
    all_goals simp only [resOf, Try.results33, Try.ntmps33, go_sem, seval, eq_self, reduceCtorEq]
theorem lOf_words (k : Bool) (l : List Int) : lOf 1 (.lst k 1 (l.map uv)) = some (l.map uv) := rfl
theorem spSameW_v {a b : List Int} (ha : a.length ≤ 1000000000) (hb : b.length ≤ 1000000000) {x y : V} (hx : lOf 1 x = some (a.map uv)) (hy : lOf 1 y = some (b.map uv)) : spSameW.fn [x, y] = some (.s (.bool (decide (a = b)))) := by
  simp only [spSameW, hx, hy, Option.bind_some, mapM_of u32Of_v]
  rw [if_pos ⟨ha, hb⟩]
def cR3 : Orc := upd (upd (upd (upd (upd (upd cR2 21 (some spQNew)) 23 (some spQPush)) 25 (some spQPop)) 27 (some spQRoom)) 30 (some spQAll)) 33 (some spSameW)
theorem cR3_ok : ∀ g sp, cR3 g = some sp → Impl Try.prog g sp := orc_upd (orc_upd (orc_upd (orc_upd (orc_upd (orc_upd cR2_ok qnew_impl) qpush_impl) qpop_impl) qroom_impl) qall_impl) sameW_impl
theorem cR3_at : cR3 33 = some spSameW ∧ cR3 20 = some spRNew ∧ cR3 26 = some spRRoom ∧ cR3 22 = some spRPush ∧ cR3 24 = some spRPop ∧ cR3 29 = some spRAll := ⟨rfl, rfl, rfl, rfl, rfl, rfl⟩

theorem same_impl : Impl Try.prog 28 spSameW := by
  refine impl_walk2 mixed cR3_ok eqT_ok Try.func28 rfl Try.ntmps28 (by kernel_rfl) ?_
  intro xs r h
  unfold spSameW at h
  simp only at h
  (try split at h) <;> try (cases (show none = some r from h); done)
  rename_i x y
  obtain ⟨l, hl, h3⟩ := Option.bind_eq_some_iff.1 h
  obtain ⟨a, ha, h4⟩ := Option.bind_eq_some_iff.1 h3
  obtain ⟨m, hm, h5⟩ := Option.bind_eq_some_iff.1 h4
  obtain ⟨b, hb, h6⟩ := Option.bind_eq_some_iff.1 h5
  clear h h3 h4 h5
  have e1 := mapM_eq (fun _ _ => u32Of_eq) ha
  have e2 := mapM_eq (fun _ _ => u32Of_eq) hb
  subst e1
  subst e2
  split at h6
  case isFalse => cases h6
  rename_i hh
  obtain ⟨hla, hlb⟩ := hh
  cases h6
  refine ⟨_, (SeesL.cons (lOf_sees hl) (.cons (lOf_sees hm) .nil)).args, by simp, ?_⟩
  have hS := spSameW_v hla hlb (lOf_words false a) (lOf_words false b)
  simp only [go_sem, seval, eq_self, reduceCtorEq, cR3_at, spSameW_mv, hS]
  repeat' ((first | (refine AG_of ?_ ?_ <;> intro h) | (refine AB_of ?_ ?_ <;> intro h) | (refine A_draw_of [] [] (by kernel_rfl) ?_ <;> have h := mark)) <;> simp only [go_sem, seval, eq_self, reduceCtorEq, cR3_at, spSameW_mv, hS, h])
  all_goals (first | refine fin_ret ?_ | refine fin_normal ?_)
  all_goals simp only [resOf, Try.results28, Try.ntmps28, go_sem, seval, eq_self, reduceCtorEq]
def spTrue : Spec := ⟨[], fun xs => match xs with
  | [] => some (.s (.bool true))
  | _ => none⟩
theorem spTrue_mv : spTrue.mv = [] := rfl
theorem spTrue_fn : spTrue.fn [] = some (.s (.bool true)) := rfl
theorem al_new : spRNew.fn [.s (.int .i64 3)] = some (.obx [.own 1 20 [.s .nilIface, .s .nilIface, .s .nilIface], .s (.int .i64 0), .s (.int .i64 0)]) := by kernel_rfl
theorem al_push : spRPush.fn [.obx [.own 1 20 [.s .nilIface, .s .nilIface, .s .nilIface], .s (.int .i64 0), .s (.int .i64 0)], .s (.int .u32 7)] = some (.io 0 (.s (.bool true)) (.obx [.own 1 20 [.s (.iface 22 (.int .u32 7)), .s .nilIface, .s .nilIface], .s (.int .i64 0), .s (.int .i64 1)])) := by kernel_rfl
theorem al_pop : spRPop.fn [.obx [.own 1 20 [.s (.iface 22 (.int .u32 7)), .s .nilIface, .s .nilIface], .s (.int .i64 0), .s (.int .i64 1)]] = some (.io 0 (.tup [.s (.int .u32 7), .s (.bool true)]) (.obx [.own 1 20 [.s .nilIface, .s .nilIface, .s .nilIface], .s (.int .i64 1), .s (.int .i64 0)])) := by kernel_rfl
theorem al_room : spRRoom.fn [.ept [.lst false 1 [.s .nilIface, .s .nilIface, .s .nilIface], .s (.int .i64 0), .s (.int .i64 0)]] = some (.s (.int .i64 3)) := by kernel_rfl
theorem al_all : spRAll.fn [.ept [.lst false 1 [.s .nilIface, .s .nilIface, .s .nilIface], .s (.int .i64 1), .s (.int .i64 0)]] = some (.s (.slice none 0 0)) := by kernel_rfl
set_option maxHeartbeats 1000000 in
theorem alive15_impl : Impl Try.prog 19 spTrue := by
  refine impl_walk mixed cR3_ok eqT_ok Try.func19 rfl Try.ntmps19 (by kernel_rfl) ?_
  intro xs r h
  unfold spTrue at h
  simp only at h
  (try split at h) <;> try (cases (show none = some r from h); done)
  cases h
  refine ⟨by simp, ?_⟩
  simp only [go_sem, seval, eq_self, reduceCtorEq, cR3_at, spRNew_mv, spRPush_mv, spRPop_mv, spRRoom_mv, spRAll_mv, al_new, al_push, al_pop, al_room, al_all, nest]
  repeat' ((first | (refine AG_of ?_ ?_ <;> intro h) | (refine AB_of ?_ ?_ <;> intro h) | (refine A_draw_of [] [] (by kernel_rfl) ?_ <;> have h := mark)) <;> simp only [go_sem, seval, eq_self, reduceCtorEq, cR3_at, spRNew_mv, spRPush_mv, spRPop_mv, spRRoom_mv, spRAll_mv, al_new, al_push, al_pop, al_room, al_all, nest, h])
  all_goals (first | refine fin_ret ?_ | refine fin_normal ?_)
  all_goals simp only [resOf, Try.results19, Try.ntmps19, go_sem, seval, eq_self, reduceCtorEq]
def cR4 : Orc := upd (upd cR3 28 (some spSameW)) 19 (some spTrue)
theorem cR4_ok : ∀ g sp, cR4 g = some sp → Impl Try.prog g sp := orc_upd (orc_upd cR3_ok same_impl) alive15_impl
theorem cR4_at : cR4 28 = some spSameW ∧ cR4 19 = some spTrue ∧ cR4 20 = some spRNew ∧ cR4 26 = some spRRoom ∧ cR4 22 = some spRPush ∧ cR4 24 = some spRPop ∧ cR4 29 = some spRAll := ⟨rfl, rfl, rfl, rfl, rfl, rfl, rfl⟩
theorem cR4_q : cR4 21 = some spQNew ∧ cR4 23 = some spQPush ∧ cR4 25 = some spQPop ∧ cR4 27 = some spQRoom ∧ cR4 30 = some spQAll := ⟨rfl, rfl, rfl, rfl, rfl⟩
end Go.Proofs.Ytgamljjoehncbaa
