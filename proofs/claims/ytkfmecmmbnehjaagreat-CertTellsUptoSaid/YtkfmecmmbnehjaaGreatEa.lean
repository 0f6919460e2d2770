/-
The makers that put cells one behind the other, by the plain reckoning. No condition.
-/
import Derived.Test.YtkfmecmmbnehjaaGreatOc
import Derived.Test.YtkfmecmmbnehjaaGreatCa
namespace Go.Proofs.YtkfmecmmbnehjaaGreat
set_option linter.unusedSimpArgs false
set_option linter.unusedVariables false

def spMIns : Spec := ⟨[true, false], fun xs => match xs with
  | [.obx [.s (.int .i64 op), .s (.int .i64 d), .s (.int .i64 a), .s (.int .i64 b), .s (.int .i64 imm), .s (.int .i64 pc), .s (.int .i64 off), out], .s (.int .i64 kind)] => (cellsOf out).bind fun l => if l.length ≤ 1000 then some (.io 0 (.tup []) (.obx [.s (.int .i64 op), .s (.int .i64 d), .s (.int .i64 a), .s (.int .i64 b), .s (.int .i64 imm), .s (.int .i64 pc), .s (.int .i64 off), ownC (l ++ [⟨kind, ⟨op, d, a, b, imm⟩, 0, pc, off⟩])])) else none
  | _ => none⟩
set_option maxHeartbeats 2000000 in
theorem mIns_impl : Impl Tryz.prog 83 spMIns := by
  refine impl_walk mixed cLaw2_ok eqT_ok Tryz.func83 rfl Tryz.ntmps83 (by kernel_rfl) ?_
  intro xs r h
  unfold spMIns at h
  simp only at h
  (try split at h) <;> try (cases (show none = some r from h); done)
  rename_i op d a b imm pc off out kind
  obtain ⟨l, hl, h2⟩ := Option.bind_eq_some_iff.1 h
  clear h
  split at h2
  case isFalse => cases h2
  rename_i hlen
  cases h2
  rw [ownC_snoc]
  have hsc := scal_cell l
  rw [List.map_append]
  rcases cellsOf_cases hl with ⟨rfl, rfl⟩ | ⟨he, _⟩
  · refine ⟨by simp, ?_⟩
    simp only [go_sem, seval, eq_self, reduceCtorEq, nest]
    repeat' ((first | (refine AG_of ?_ ?_ <;> intro h) | (refine AB_of ?_ ?_ <;> intro h)) <;> simp only [go_sem, seval, eq_self, reduceCtorEq, nest, h])
    refine A_draw_of [23, 24] [23, 24] (by kernel_rfl) ?_
    simp only [go_sem, seval, eq_self, reduceCtorEq, nest]
    repeat' ((first | (refine AG_of ?_ ?_ <;> intro h) | (refine AB_of ?_ ?_ <;> intro h)) <;> simp only [go_sem, seval, eq_self, reduceCtorEq, nest, h])
    all_goals refine fin_io (by first | exact .inl rfl | exact .inr rfl) (by simp [ownAt, V.isOwn]) ?_
    all_goals simp only [ioOf, Tryz.results83, Tryz.ntmps83, go_sem, seval, eq_self, reduceCtorEq, nest, Cell.v, insZ]
  · clear hl
    obtain ⟨lv, hlv⟩ : ∃ lv, l.map Cell.v = lv := ⟨_, rfl⟩
    have f0 : lv.length = l.length := by rw [← hlv, List.length_map]
    have f1 : (lv.length + 1) * 72 ≤ 140737488355328 := by omega
    rw [hlv] at he hsc ⊢
    subst he
    clear hlv
    refine ⟨by simp, ?_⟩
    simp only [go_sem, seval, eq_self, reduceCtorEq, nest]
    repeat' ((first | (refine AG_of ?_ ?_ <;> intro h) | (refine AB_of ?_ ?_ <;> intro h)) <;> simp only [go_sem, seval, eq_self, reduceCtorEq, nest, h])
    refine A_draw_of [23, 1007] [23, 24] (by kernel_rfl) ?_
    simp only [go_sem, seval, eq_self, reduceCtorEq, f1, nest]
    repeat' ((first | (refine AG_of ?_ ?_ <;> intro h) | (refine AB_of ?_ ?_ <;> intro h)) <;> simp only [go_sem, seval, eq_self, reduceCtorEq, f1, nest, h])
    all_goals refine fin_io (by first | exact .inl rfl | exact .inr rfl) (by simp [ownAt, V.isOwn]) ?_
    all_goals simp only [ioOf, Tryz.results83, Tryz.ntmps83, go_sem, seval, eq_self, reduceCtorEq, hsc, nest, List.all_append, Cell.v, insZ]

def spMReg : Spec := ⟨[true, false, false], fun xs => match xs with
  | [.obx [.s (.int .i64 op), .s (.int .i64 d), .s (.int .i64 a), .s (.int .i64 b), .s (.int .i64 imm), .s (.int .i64 pc), .s (.int .i64 off), out], .s (.int .i64 kind), .s (.int .i64 r)] => (cellsOf out).bind fun l => if l.length ≤ 1000 then some (.io 0 (.tup []) (.obx [.s (.int .i64 op), .s (.int .i64 d), .s (.int .i64 a), .s (.int .i64 b), .s (.int .i64 imm), .s (.int .i64 pc), .s (.int .i64 off), ownC (l ++ [⟨kind, insZ, r, pc, off⟩])])) else none
  | _ => none⟩
set_option maxHeartbeats 2000000 in
theorem mReg_impl : Impl Tryz.prog 84 spMReg := by
  refine impl_walk mixed cLaw2_ok eqT_ok Tryz.func84 rfl Tryz.ntmps84 (by kernel_rfl) ?_
  intro xs r h
  unfold spMReg at h
  simp only at h
  (try split at h) <;> try (cases (show none = some r from h); done)
  rename_i op d a b imm pc off out kind r
  obtain ⟨l, hl, h2⟩ := Option.bind_eq_some_iff.1 h
  clear h
  split at h2
  case isFalse => cases h2
  rename_i hlen
  cases h2
  rw [ownC_snoc]
  have hsc := scal_cell l
  rw [List.map_append]
  rcases cellsOf_cases hl with ⟨rfl, rfl⟩ | ⟨he, _⟩
  · refine ⟨by simp, ?_⟩
    simp only [go_sem, seval, eq_self, reduceCtorEq, nest]
    repeat' ((first | (refine AG_of ?_ ?_ <;> intro h) | (refine AB_of ?_ ?_ <;> intro h)) <;> simp only [go_sem, seval, eq_self, reduceCtorEq, nest, h])
    refine A_draw_of [22, 23] [22, 23] (by kernel_rfl) ?_
    simp only [go_sem, seval, eq_self, reduceCtorEq, nest]
    repeat' ((first | (refine AG_of ?_ ?_ <;> intro h) | (refine AB_of ?_ ?_ <;> intro h)) <;> simp only [go_sem, seval, eq_self, reduceCtorEq, nest, h])
    all_goals refine fin_io (by first | exact .inl rfl | exact .inr rfl) (by simp [ownAt, V.isOwn]) ?_
    all_goals simp only [ioOf, Tryz.results84, Tryz.ntmps84, go_sem, seval, eq_self, reduceCtorEq, nest, Cell.v, insZ]
  · clear hl
    obtain ⟨lv, hlv⟩ : ∃ lv, l.map Cell.v = lv := ⟨_, rfl⟩
    have f0 : lv.length = l.length := by rw [← hlv, List.length_map]
    have f1 : (lv.length + 1) * 72 ≤ 140737488355328 := by omega
    rw [hlv] at he hsc ⊢
    subst he
    clear hlv
    refine ⟨by simp, ?_⟩
    simp only [go_sem, seval, eq_self, reduceCtorEq, nest]
    repeat' ((first | (refine AG_of ?_ ?_ <;> intro h) | (refine AB_of ?_ ?_ <;> intro h)) <;> simp only [go_sem, seval, eq_self, reduceCtorEq, nest, h])
    refine A_draw_of [22, 1007] [22, 23] (by kernel_rfl) ?_
    simp only [go_sem, seval, eq_self, reduceCtorEq, f1, nest]
    repeat' ((first | (refine AG_of ?_ ?_ <;> intro h) | (refine AB_of ?_ ?_ <;> intro h)) <;> simp only [go_sem, seval, eq_self, reduceCtorEq, f1, nest, h])
    all_goals refine fin_io (by first | exact .inl rfl | exact .inr rfl) (by simp [ownAt, V.isOwn]) ?_
    all_goals simp only [ioOf, Tryz.results84, Tryz.ntmps84, go_sem, seval, eq_self, reduceCtorEq, hsc, nest, List.all_append, Cell.v, insZ]

def spMBare : Spec := ⟨[true, false], fun xs => match xs with
  | [.obx [.s (.int .i64 op), .s (.int .i64 d), .s (.int .i64 a), .s (.int .i64 b), .s (.int .i64 imm), .s (.int .i64 pc), .s (.int .i64 off), out], .s (.int .i64 kind)] => (cellsOf out).bind fun l => if l.length ≤ 1000 then some (.io 0 (.tup []) (.obx [.s (.int .i64 op), .s (.int .i64 d), .s (.int .i64 a), .s (.int .i64 b), .s (.int .i64 imm), .s (.int .i64 pc), .s (.int .i64 off), ownC (l ++ [⟨kind, insZ, 0, pc, off⟩])])) else none
  | _ => none⟩
set_option maxHeartbeats 2000000 in
theorem mBare_impl : Impl Tryz.prog 88 spMBare := by
  refine impl_walk mixed cLaw2_ok eqT_ok Tryz.func88 rfl Tryz.ntmps88 (by kernel_rfl) ?_
  intro xs r h
  unfold spMBare at h
  simp only at h
  (try split at h) <;> try (cases (show none = some r from h); done)
  rename_i op d a b imm pc off out kind
  obtain ⟨l, hl, h2⟩ := Option.bind_eq_some_iff.1 h
  clear h
  split at h2
  case isFalse => cases h2
  rename_i hlen
  cases h2
  rw [ownC_snoc]
  have hsc := scal_cell l
  rw [List.map_append]
  rcases cellsOf_cases hl with ⟨rfl, rfl⟩ | ⟨he, _⟩
  · refine ⟨by simp, ?_⟩
    simp only [go_sem, seval, eq_self, reduceCtorEq, nest]
    repeat' ((first | (refine AG_of ?_ ?_ <;> intro h) | (refine AB_of ?_ ?_ <;> intro h)) <;> simp only [go_sem, seval, eq_self, reduceCtorEq, nest, h])
    refine A_draw_of [19, 20] [19, 20] (by kernel_rfl) ?_
    simp only [go_sem, seval, eq_self, reduceCtorEq, nest]
    repeat' ((first | (refine AG_of ?_ ?_ <;> intro h) | (refine AB_of ?_ ?_ <;> intro h)) <;> simp only [go_sem, seval, eq_self, reduceCtorEq, nest, h])
    all_goals refine fin_io (by first | exact .inl rfl | exact .inr rfl) (by simp [ownAt, V.isOwn]) ?_
    all_goals simp only [ioOf, Tryz.results88, Tryz.ntmps88, go_sem, seval, eq_self, reduceCtorEq, nest, Cell.v, insZ]
  · clear hl
    obtain ⟨lv, hlv⟩ : ∃ lv, l.map Cell.v = lv := ⟨_, rfl⟩
    have f0 : lv.length = l.length := by rw [← hlv, List.length_map]
    have f1 : (lv.length + 1) * 72 ≤ 140737488355328 := by omega
    rw [hlv] at he hsc ⊢
    subst he
    clear hlv
    refine ⟨by simp, ?_⟩
    simp only [go_sem, seval, eq_self, reduceCtorEq, nest]
    repeat' ((first | (refine AG_of ?_ ?_ <;> intro h) | (refine AB_of ?_ ?_ <;> intro h)) <;> simp only [go_sem, seval, eq_self, reduceCtorEq, nest, h])
    refine A_draw_of [19, 1007] [19, 20] (by kernel_rfl) ?_
    simp only [go_sem, seval, eq_self, reduceCtorEq, f1, nest]
    repeat' ((first | (refine AG_of ?_ ?_ <;> intro h) | (refine AB_of ?_ ?_ <;> intro h)) <;> simp only [go_sem, seval, eq_self, reduceCtorEq, f1, nest, h])
    all_goals refine fin_io (by first | exact .inl rfl | exact .inr rfl) (by simp [ownAt, V.isOwn]) ?_
    all_goals simp only [ioOf, Tryz.results88, Tryz.ntmps88, go_sem, seval, eq_self, reduceCtorEq, hsc, nest, List.all_append, Cell.v, insZ]

def spRIns : Spec := ⟨[true, false, false], fun xs => match xs with
  | [.obx [.s (.int .i64 pc), .s (.int .i64 off), out], .s (.int .i64 kind), .agg [.s (.int .i64 op), .s (.int .i64 d), .s (.int .i64 a), .s (.int .i64 b), .s (.int .i64 imm)]] => (cellsOf out).bind fun l => if l.length ≤ 1000 then some (.io 0 (.tup []) (.obx [.s (.int .i64 pc), .s (.int .i64 off), ownC (l ++ [⟨kind, ⟨op, d, a, b, imm⟩, 0, pc, off⟩])])) else none
  | _ => none⟩
set_option maxHeartbeats 2000000 in
theorem rIns_impl : Impl Tryz.prog 63 spRIns := by
  refine impl_walk mixed cLaw2_ok eqT_ok Tryz.func63 rfl Tryz.ntmps63 (by kernel_rfl) ?_
  intro xs r h
  unfold spRIns at h
  simp only at h
  (try split at h) <;> try (cases (show none = some r from h); done)
  rename_i pc off out kind op d a b imm
  obtain ⟨l, hl, h2⟩ := Option.bind_eq_some_iff.1 h
  clear h
  split at h2
  case isFalse => cases h2
  rename_i hlen
  cases h2
  rw [ownC_snoc]
  have hsc := scal_cell l
  rw [List.map_append]
  rcases cellsOf_cases hl with ⟨rfl, rfl⟩ | ⟨he, _⟩
  · refine ⟨by simp, ?_⟩
    simp only [go_sem, seval, eq_self, reduceCtorEq, nest]
    repeat' ((first | (refine AG_of ?_ ?_ <;> intro h) | (refine AB_of ?_ ?_ <;> intro h)) <;> simp only [go_sem, seval, eq_self, reduceCtorEq, nest, h])
    refine A_draw_of [22, 23] [22, 23] (by kernel_rfl) ?_
    simp only [go_sem, seval, eq_self, reduceCtorEq, nest]
    repeat' ((first | (refine AG_of ?_ ?_ <;> intro h) | (refine AB_of ?_ ?_ <;> intro h)) <;> simp only [go_sem, seval, eq_self, reduceCtorEq, nest, h])
    all_goals refine fin_io (by first | exact .inl rfl | exact .inr rfl) (by simp [ownAt, V.isOwn]) ?_
    all_goals simp only [ioOf, Tryz.results63, Tryz.ntmps63, go_sem, seval, eq_self, reduceCtorEq, nest, Cell.v, insZ]
  · clear hl
    obtain ⟨lv, hlv⟩ : ∃ lv, l.map Cell.v = lv := ⟨_, rfl⟩
    have f0 : lv.length = l.length := by rw [← hlv, List.length_map]
    have f1 : (lv.length + 1) * 72 ≤ 140737488355328 := by omega
    rw [hlv] at he hsc ⊢
    subst he
    clear hlv
    refine ⟨by simp, ?_⟩
    simp only [go_sem, seval, eq_self, reduceCtorEq, nest]
    repeat' ((first | (refine AG_of ?_ ?_ <;> intro h) | (refine AB_of ?_ ?_ <;> intro h)) <;> simp only [go_sem, seval, eq_self, reduceCtorEq, nest, h])
    refine A_draw_of [22, 1002] [22, 23] (by kernel_rfl) ?_
    simp only [go_sem, seval, eq_self, reduceCtorEq, f1, nest]
    repeat' ((first | (refine AG_of ?_ ?_ <;> intro h) | (refine AB_of ?_ ?_ <;> intro h)) <;> simp only [go_sem, seval, eq_self, reduceCtorEq, f1, nest, h])
    all_goals refine fin_io (by first | exact .inl rfl | exact .inr rfl) (by simp [ownAt, V.isOwn]) ?_
    all_goals simp only [ioOf, Tryz.results63, Tryz.ntmps63, go_sem, seval, eq_self, reduceCtorEq, hsc, nest, List.all_append, Cell.v, insZ]

def spRReg : Spec := ⟨[true, false, false], fun xs => match xs with
  | [.obx [.s (.int .i64 pc), .s (.int .i64 off), out], .s (.int .i64 kind), .s (.int .i64 r)] => (cellsOf out).bind fun l => if l.length ≤ 1000 then some (.io 0 (.tup []) (.obx [.s (.int .i64 pc), .s (.int .i64 off), ownC (l ++ [⟨kind, insZ, r, pc, off⟩])])) else none
  | _ => none⟩
set_option maxHeartbeats 2000000 in
theorem rReg_impl : Impl Tryz.prog 67 spRReg := by
  refine impl_walk mixed cLaw2_ok eqT_ok Tryz.func67 rfl Tryz.ntmps67 (by kernel_rfl) ?_
  intro xs r h
  unfold spRReg at h
  simp only at h
  (try split at h) <;> try (cases (show none = some r from h); done)
  rename_i pc off out kind r
  obtain ⟨l, hl, h2⟩ := Option.bind_eq_some_iff.1 h
  clear h
  split at h2
  case isFalse => cases h2
  rename_i hlen
  cases h2
  rw [ownC_snoc]
  have hsc := scal_cell l
  rw [List.map_append]
  rcases cellsOf_cases hl with ⟨rfl, rfl⟩ | ⟨he, _⟩
  · refine ⟨by simp, ?_⟩
    simp only [go_sem, seval, eq_self, reduceCtorEq, nest]
    repeat' ((first | (refine AG_of ?_ ?_ <;> intro h) | (refine AB_of ?_ ?_ <;> intro h)) <;> simp only [go_sem, seval, eq_self, reduceCtorEq, nest, h])
    refine A_draw_of [22, 23] [22, 23] (by kernel_rfl) ?_
    simp only [go_sem, seval, eq_self, reduceCtorEq, nest]
    repeat' ((first | (refine AG_of ?_ ?_ <;> intro h) | (refine AB_of ?_ ?_ <;> intro h)) <;> simp only [go_sem, seval, eq_self, reduceCtorEq, nest, h])
    all_goals refine fin_io (by first | exact .inl rfl | exact .inr rfl) (by simp [ownAt, V.isOwn]) ?_
    all_goals simp only [ioOf, Tryz.results67, Tryz.ntmps67, go_sem, seval, eq_self, reduceCtorEq, nest, Cell.v, insZ]
  · clear hl
    obtain ⟨lv, hlv⟩ : ∃ lv, l.map Cell.v = lv := ⟨_, rfl⟩
    have f0 : lv.length = l.length := by rw [← hlv, List.length_map]
    have f1 : (lv.length + 1) * 72 ≤ 140737488355328 := by omega
    rw [hlv] at he hsc ⊢
    subst he
    clear hlv
    refine ⟨by simp, ?_⟩
    simp only [go_sem, seval, eq_self, reduceCtorEq, nest]
    repeat' ((first | (refine AG_of ?_ ?_ <;> intro h) | (refine AB_of ?_ ?_ <;> intro h)) <;> simp only [go_sem, seval, eq_self, reduceCtorEq, nest, h])
    refine A_draw_of [22, 1002] [22, 23] (by kernel_rfl) ?_
    simp only [go_sem, seval, eq_self, reduceCtorEq, f1, nest]
    repeat' ((first | (refine AG_of ?_ ?_ <;> intro h) | (refine AB_of ?_ ?_ <;> intro h)) <;> simp only [go_sem, seval, eq_self, reduceCtorEq, f1, nest, h])
    all_goals refine fin_io (by first | exact .inl rfl | exact .inr rfl) (by simp [ownAt, V.isOwn]) ?_
    all_goals simp only [ioOf, Tryz.results67, Tryz.ntmps67, go_sem, seval, eq_self, reduceCtorEq, hsc, nest, List.all_append, Cell.v, insZ]

def spRPlain : Spec := ⟨[true, false], fun xs => match xs with
  | [.obx [.s (.int .i64 pc), .s (.int .i64 off), out], .s (.int .i64 kind)] => (cellsOf out).bind fun l => if l.length ≤ 1000 then some (.io 0 (.tup []) (.obx [.s (.int .i64 pc), .s (.int .i64 off), ownC (l ++ [⟨kind, insZ, 0, pc, off⟩])])) else none
  | _ => none⟩
set_option maxHeartbeats 2000000 in
theorem rPlain_impl : Impl Tryz.prog 68 spRPlain := by
  refine impl_walk mixed cLaw2_ok eqT_ok Tryz.func68 rfl Tryz.ntmps68 (by kernel_rfl) ?_
  intro xs r h
  unfold spRPlain at h
  simp only at h
  (try split at h) <;> try (cases (show none = some r from h); done)
  rename_i pc off out kind
  obtain ⟨l, hl, h2⟩ := Option.bind_eq_some_iff.1 h
  clear h
  split at h2
  case isFalse => cases h2
  rename_i hlen
  cases h2
  rw [ownC_snoc]
  have hsc := scal_cell l
  rw [List.map_append]
  rcases cellsOf_cases hl with ⟨rfl, rfl⟩ | ⟨he, _⟩
  · refine ⟨by simp, ?_⟩
    simp only [go_sem, seval, eq_self, reduceCtorEq, nest]
    repeat' ((first | (refine AG_of ?_ ?_ <;> intro h) | (refine AB_of ?_ ?_ <;> intro h)) <;> simp only [go_sem, seval, eq_self, reduceCtorEq, nest, h])
    refine A_draw_of [19, 20] [19, 20] (by kernel_rfl) ?_
    simp only [go_sem, seval, eq_self, reduceCtorEq, nest]
    repeat' ((first | (refine AG_of ?_ ?_ <;> intro h) | (refine AB_of ?_ ?_ <;> intro h)) <;> simp only [go_sem, seval, eq_self, reduceCtorEq, nest, h])
    all_goals refine fin_io (by first | exact .inl rfl | exact .inr rfl) (by simp [ownAt, V.isOwn]) ?_
    all_goals simp only [ioOf, Tryz.results68, Tryz.ntmps68, go_sem, seval, eq_self, reduceCtorEq, nest, Cell.v, insZ]
  · clear hl
    obtain ⟨lv, hlv⟩ : ∃ lv, l.map Cell.v = lv := ⟨_, rfl⟩
    have f0 : lv.length = l.length := by rw [← hlv, List.length_map]
    have f1 : (lv.length + 1) * 72 ≤ 140737488355328 := by omega
    rw [hlv] at he hsc ⊢
    subst he
    clear hlv
    refine ⟨by simp, ?_⟩
    simp only [go_sem, seval, eq_self, reduceCtorEq, nest]
    repeat' ((first | (refine AG_of ?_ ?_ <;> intro h) | (refine AB_of ?_ ?_ <;> intro h)) <;> simp only [go_sem, seval, eq_self, reduceCtorEq, nest, h])
    refine A_draw_of [19, 1002] [19, 20] (by kernel_rfl) ?_
    simp only [go_sem, seval, eq_self, reduceCtorEq, f1, nest]
    repeat' ((first | (refine AG_of ?_ ?_ <;> intro h) | (refine AB_of ?_ ?_ <;> intro h)) <;> simp only [go_sem, seval, eq_self, reduceCtorEq, f1, nest, h])
    all_goals refine fin_io (by first | exact .inl rfl | exact .inr rfl) (by simp [ownAt, V.isOwn]) ?_
    all_goals simp only [ioOf, Tryz.results68, Tryz.ntmps68, go_sem, seval, eq_self, reduceCtorEq, hsc, nest, List.all_append, Cell.v, insZ]

end Go.Proofs.YtkfmecmmbnehjaaGreat
