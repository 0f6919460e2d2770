/-
Cells, and the makers that put them one behind the other, by the plain reckoning. No condition.
-/
import Derived.Test.YtnhpkdkffpagdaaOc
namespace Go.Proofs.Ytnhpkdkffpagdaa
set_option linter.unusedSimpArgs false
set_option linter.unusedVariables false

structure Cell where
  kind : Int
  ins : Ins
  reg : Int
  pc : Int
  off : Int
def insZ : Ins := ⟨0, 0, 0, 0, 0⟩
def Cell.v (c : Cell) : V := .agg [.s (.int .i64 c.kind), .s (.int .i64 c.ins.op), .s (.int .i64 c.ins.d), .s (.int .i64 c.ins.a), .s (.int .i64 c.ins.b), .s (.int .i64 c.ins.imm), .s (.int .i64 c.reg), .s (.int .i64 c.pc), .s (.int .i64 c.off)]
def cellOf : V → Option Cell
  | .agg [.s (.int .i64 k), .s (.int .i64 op), .s (.int .i64 d), .s (.int .i64 a), .s (.int .i64 b), .s (.int .i64 imm), .s (.int .i64 r), .s (.int .i64 pc), .s (.int .i64 off)] => some ⟨k, ⟨op, d, a, b, imm⟩, r, pc, off⟩
  | _ => none
theorem cellOf_eq {x : V} {i : Cell} (h : cellOf x = some i) : x = i.v := by
  unfold cellOf at h
  split at h
  · cases h; rfl
  · cases h
theorem cellOf_v (c : Cell) : cellOf c.v = some c := rfl
theorem scal_cell (l : List Cell) : (l.map Cell.v).all V.scal = true := by
  rw [List.all_eq_true]; intro x hx; obtain ⟨b, _, rfl⟩ := List.mem_map.1 hx; rfl
/-- what a maker has put: nothing, or a row -/
def cellsOf : V → Option (List Cell)
  | .s (.slice none 0 0) => some []
  | .own 9 51 l => (l.mapM cellOf).bind fun c => if c.isEmpty then none else some c
  | _ => none
def ownC (l : List Cell) : V := if l.isEmpty then .s (.slice none 0 0) else .own 9 51 (l.map Cell.v)
theorem cellsOf_cases {x : V} {l : List Cell} (h : cellsOf x = some l) : (x = .s (.slice none 0 0) ∧ l = []) ∨ (x = .own 9 51 (l.map Cell.v) ∧ l ≠ []) := by
  unfold cellsOf at h
  split at h
  · cases h; exact .inl ⟨rfl, rfl⟩
  · obtain ⟨c, h1, h2⟩ := Option.bind_eq_some_iff.1 h
    split at h2
    · cases h2
    · cases h2
      rename_i hc
      exact .inr ⟨by rw [mapM_eq (fun _ _ => cellOf_eq) h1], fun e => hc (by simp [e])⟩
  · cases h
theorem cellsOf_own (l : List Cell) : cellsOf (ownC l) = some l := by
  cases l with
  | nil => rfl
  | cons c l =>
    show (((c :: l).map Cell.v).mapM cellOf).bind _ = _
    rw [mapM_of cellOf_v]; rfl
theorem ownC_snoc (l : List Cell) (c : Cell) : ownC (l ++ [c]) = .own 9 51 ((l ++ [c]).map Cell.v) := by
  unfold ownC
  rw [if_neg (by simp)]

def spMIns : Spec := ⟨[true, false], fun xs => match xs with
  | [.obx [.s (.int .i64 op), .s (.int .i64 d), .s (.int .i64 a), .s (.int .i64 b), .s (.int .i64 imm), .s (.int .i64 pc), .s (.int .i64 off), out], .s (.int .i64 kind)] => (cellsOf out).bind fun l => if l.length ≤ 1000 then some (.io 0 (.tup []) (.obx [.s (.int .i64 op), .s (.int .i64 d), .s (.int .i64 a), .s (.int .i64 b), .s (.int .i64 imm), .s (.int .i64 pc), .s (.int .i64 off), ownC (l ++ [⟨kind, ⟨op, d, a, b, imm⟩, 0, pc, off⟩])])) else none
  | _ => none⟩
set_option maxHeartbeats 2000000 in
theorem mIns_impl : Impl Try.prog 54 spMIns := by
  refine impl_walk mixed cLaw2_ok eqT_ok Try.func54 rfl Try.ntmps54 (by kernel_rfl) ?_
  intro xs r h
  unfold spMIns at h
  simp only at h
  (try split at h) <;> try (cases (show none = some r from h); done)
  rename_i op d a b imm pc off out kind
  obtain ⟨l, hl, h2⟩ := Option.bind_eq_some_iff.1 h
  clear h
  split at h2
  case isFalse => cases h2
  rename_i hlen
  cases h2
  rw [ownC_snoc]
  have hsc := scal_cell l
  rw [List.map_append]
  rcases cellsOf_cases hl with ⟨rfl, rfl⟩ | ⟨he, _⟩
  · refine ⟨by simp, ?_⟩
    simp only [go_sem, seval, eq_self, reduceCtorEq, nest]
    repeat' ((first | (refine AG_of ?_ ?_ <;> intro h) | (refine AB_of ?_ ?_ <;> intro h)) <;> simp only [go_sem, seval, eq_self, reduceCtorEq, nest, h])
    refine A_draw_of [23, 24] [23, 24] (by kernel_rfl) ?_
    simp only [go_sem, seval, eq_self, reduceCtorEq, nest]
    repeat' ((first | (refine AG_of ?_ ?_ <;> intro h) | (refine AB_of ?_ ?_ <;> intro h)) <;> simp only [go_sem, seval, eq_self, reduceCtorEq, nest, h])
    all_goals refine fin_io (by first | exact .inl rfl | exact .inr rfl) (by simp [ownAt, V.isOwn]) ?_
    all_goals simp only [ioOf, Try.results54, Try.ntmps54, go_sem, seval, eq_self, reduceCtorEq, nest, Cell.v, insZ]
  · clear hl
    obtain ⟨lv, hlv⟩ : ∃ lv, l.map Cell.v = lv := ⟨_, rfl⟩
    have f0 : lv.length = l.length := by rw [← hlv, List.length_map]
    have f1 : (lv.length + 1) * 72 ≤ 140737488355328 := by omega
    rw [hlv] at he hsc ⊢
    subst he
    clear hlv
    refine ⟨by simp, ?_⟩
    simp only [go_sem, seval, eq_self, reduceCtorEq, nest]
    repeat' ((first | (refine AG_of ?_ ?_ <;> intro h) | (refine AB_of ?_ ?_ <;> intro h)) <;> simp only [go_sem, seval, eq_self, reduceCtorEq, nest, h])
    refine A_draw_of [23, 1007] [23, 24] (by kernel_rfl) ?_
    simp only [go_sem, seval, eq_self, reduceCtorEq, f1, nest]
    repeat' ((first | (refine AG_of ?_ ?_ <;> intro h) | (refine AB_of ?_ ?_ <;> intro h)) <;> simp only [go_sem, seval, eq_self, reduceCtorEq, f1, nest, h])
    all_goals refine fin_io (by first | exact .inl rfl | exact .inr rfl) (by simp [ownAt, V.isOwn]) ?_
    all_goals simp only [ioOf, Try.results54, Try.ntmps54, go_sem, seval, eq_self, reduceCtorEq, hsc, nest, List.all_append, Cell.v, insZ]

def spMReg : Spec := ⟨[true, false, false], fun xs => match xs with
  | [.obx [.s (.int .i64 op), .s (.int .i64 d), .s (.int .i64 a), .s (.int .i64 b), .s (.int .i64 imm), .s (.int .i64 pc), .s (.int .i64 off), out], .s (.int .i64 kind), .s (.int .i64 r)] => (cellsOf out).bind fun l => if l.length ≤ 1000 then some (.io 0 (.tup []) (.obx [.s (.int .i64 op), .s (.int .i64 d), .s (.int .i64 a), .s (.int .i64 b), .s (.int .i64 imm), .s (.int .i64 pc), .s (.int .i64 off), ownC (l ++ [⟨kind, insZ, r, pc, off⟩])])) else none
  | _ => none⟩
set_option maxHeartbeats 2000000 in
theorem mReg_impl : Impl Try.prog 55 spMReg := by
  refine impl_walk mixed cLaw2_ok eqT_ok Try.func55 rfl Try.ntmps55 (by kernel_rfl) ?_
  intro xs r h
  unfold spMReg at h
  simp only at h
  (try split at h) <;> try (cases (show none = some r from h); done)
  rename_i op d a b imm pc off out kind r
  obtain ⟨l, hl, h2⟩ := Option.bind_eq_some_iff.1 h
  clear h
  split at h2
  case isFalse => cases h2
  rename_i hlen
  cases h2
  rw [ownC_snoc]
  have hsc := scal_cell l
  rw [List.map_append]
  rcases cellsOf_cases hl with ⟨rfl, rfl⟩ | ⟨he, _⟩
  · refine ⟨by simp, ?_⟩
    simp only [go_sem, seval, eq_self, reduceCtorEq, nest]
    repeat' ((first | (refine AG_of ?_ ?_ <;> intro h) | (refine AB_of ?_ ?_ <;> intro h)) <;> simp only [go_sem, seval, eq_self, reduceCtorEq, nest, h])
    refine A_draw_of [22, 23] [22, 23] (by kernel_rfl) ?_
    simp only [go_sem, seval, eq_self, reduceCtorEq, nest]
    repeat' ((first | (refine AG_of ?_ ?_ <;> intro h) | (refine AB_of ?_ ?_ <;> intro h)) <;> simp only [go_sem, seval, eq_self, reduceCtorEq, nest, h])
    all_goals refine fin_io (by first | exact .inl rfl | exact .inr rfl) (by simp [ownAt, V.isOwn]) ?_
    all_goals simp only [ioOf, Try.results55, Try.ntmps55, go_sem, seval, eq_self, reduceCtorEq, nest, Cell.v, insZ]
  · clear hl
    obtain ⟨lv, hlv⟩ : ∃ lv, l.map Cell.v = lv := ⟨_, rfl⟩
    have f0 : lv.length = l.length := by rw [← hlv, List.length_map]
    have f1 : (lv.length + 1) * 72 ≤ 140737488355328 := by omega
    rw [hlv] at he hsc ⊢
    subst he
    clear hlv
    refine ⟨by simp, ?_⟩
    simp only [go_sem, seval, eq_self, reduceCtorEq, nest]
    repeat' ((first | (refine AG_of ?_ ?_ <;> intro h) | (refine AB_of ?_ ?_ <;> intro h)) <;> simp only [go_sem, seval, eq_self, reduceCtorEq, nest, h])
    refine A_draw_of [22, 1007] [22, 23] (by kernel_rfl) ?_
    simp only [go_sem, seval, eq_self, reduceCtorEq, f1, nest]
    repeat' ((first | (refine AG_of ?_ ?_ <;> intro h) | (refine AB_of ?_ ?_ <;> intro h)) <;> simp only [go_sem, seval, eq_self, reduceCtorEq, f1, nest, h])
    all_goals refine fin_io (by first | exact .inl rfl | exact .inr rfl) (by simp [ownAt, V.isOwn]) ?_
    all_goals simp only [ioOf, Try.results55, Try.ntmps55, go_sem, seval, eq_self, reduceCtorEq, hsc, nest, List.all_append, Cell.v, insZ]

def spMBare : Spec := ⟨[true, false], fun xs => match xs with
  | [.obx [.s (.int .i64 op), .s (.int .i64 d), .s (.int .i64 a), .s (.int .i64 b), .s (.int .i64 imm), .s (.int .i64 pc), .s (.int .i64 off), out], .s (.int .i64 kind)] => (cellsOf out).bind fun l => if l.length ≤ 1000 then some (.io 0 (.tup []) (.obx [.s (.int .i64 op), .s (.int .i64 d), .s (.int .i64 a), .s (.int .i64 b), .s (.int .i64 imm), .s (.int .i64 pc), .s (.int .i64 off), ownC (l ++ [⟨kind, insZ, 0, pc, off⟩])])) else none
  | _ => none⟩
set_option maxHeartbeats 2000000 in
theorem mBare_impl : Impl Try.prog 59 spMBare := by
  refine impl_walk mixed cLaw2_ok eqT_ok Try.func59 rfl Try.ntmps59 (by kernel_rfl) ?_
  intro xs r h
  unfold spMBare at h
  simp only at h
  (try split at h) <;> try (cases (show none = some r from h); done)
  rename_i op d a b imm pc off out kind
  obtain ⟨l, hl, h2⟩ := Option.bind_eq_some_iff.1 h
  clear h
  split at h2
  case isFalse => cases h2
  rename_i hlen
  cases h2
  rw [ownC_snoc]
  have hsc := scal_cell l
  rw [List.map_append]
  rcases cellsOf_cases hl with ⟨rfl, rfl⟩ | ⟨he, _⟩
  · refine ⟨by simp, ?_⟩
    simp only [go_sem, seval, eq_self, reduceCtorEq, nest]
    repeat' ((first | (refine AG_of ?_ ?_ <;> intro h) | (refine AB_of ?_ ?_ <;> intro h)) <;> simp only [go_sem, seval, eq_self, reduceCtorEq, nest, h])
    refine A_draw_of [19, 20] [19, 20] (by kernel_rfl) ?_
    simp only [go_sem, seval, eq_self, reduceCtorEq, nest]
    repeat' ((first | (refine AG_of ?_ ?_ <;> intro h) | (refine AB_of ?_ ?_ <;> intro h)) <;> simp only [go_sem, seval, eq_self, reduceCtorEq, nest, h])
    all_goals refine fin_io (by first | exact .inl rfl | exact .inr rfl) (by simp [ownAt, V.isOwn]) ?_
    all_goals simp only [ioOf, Try.results59, Try.ntmps59, go_sem, seval, eq_self, reduceCtorEq, nest, Cell.v, insZ]
  · clear hl
    obtain ⟨lv, hlv⟩ : ∃ lv, l.map Cell.v = lv := ⟨_, rfl⟩
    have f0 : lv.length = l.length := by rw [← hlv, List.length_map]
    have f1 : (lv.length + 1) * 72 ≤ 140737488355328 := by omega
    rw [hlv] at he hsc ⊢
    subst he
    clear hlv
    refine ⟨by simp, ?_⟩
    simp only [go_sem, seval, eq_self, reduceCtorEq, nest]
    repeat' ((first | (refine AG_of ?_ ?_ <;> intro h) | (refine AB_of ?_ ?_ <;> intro h)) <;> simp only [go_sem, seval, eq_self, reduceCtorEq, nest, h])
    refine A_draw_of [19, 1007] [19, 20] (by kernel_rfl) ?_
    simp only [go_sem, seval, eq_self, reduceCtorEq, f1, nest]
    repeat' ((first | (refine AG_of ?_ ?_ <;> intro h) | (refine AB_of ?_ ?_ <;> intro h)) <;> simp only [go_sem, seval, eq_self, reduceCtorEq, f1, nest, h])
    all_goals refine fin_io (by first | exact .inl rfl | exact .inr rfl) (by simp [ownAt, V.isOwn]) ?_
    all_goals simp only [ioOf, Try.results59, Try.ntmps59, go_sem, seval, eq_self, reduceCtorEq, hsc, nest, List.all_append, Cell.v, insZ]

def spRIns : Spec := ⟨[true, false, false], fun xs => match xs with
  | [.obx [.s (.int .i64 pc), .s (.int .i64 off), out], .s (.int .i64 kind), .agg [.s (.int .i64 op), .s (.int .i64 d), .s (.int .i64 a), .s (.int .i64 b), .s (.int .i64 imm)]] => (cellsOf out).bind fun l => if l.length ≤ 1000 then some (.io 0 (.tup []) (.obx [.s (.int .i64 pc), .s (.int .i64 off), ownC (l ++ [⟨kind, ⟨op, d, a, b, imm⟩, 0, pc, off⟩])])) else none
  | _ => none⟩
set_option maxHeartbeats 2000000 in
theorem rIns_impl : Impl Try.prog 47 spRIns := by
  refine impl_walk mixed cLaw2_ok eqT_ok Try.func47 rfl Try.ntmps47 (by kernel_rfl) ?_
  intro xs r h
  unfold spRIns at h
  simp only at h
  (try split at h) <;> try (cases (show none = some r from h); done)
  rename_i pc off out kind op d a b imm
  obtain ⟨l, hl, h2⟩ := Option.bind_eq_some_iff.1 h
  clear h
  split at h2
  case isFalse => cases h2
  rename_i hlen
  cases h2
  rw [ownC_snoc]
  have hsc := scal_cell l
  rw [List.map_append]
  rcases cellsOf_cases hl with ⟨rfl, rfl⟩ | ⟨he, _⟩
  · refine ⟨by simp, ?_⟩
    simp only [go_sem, seval, eq_self, reduceCtorEq, nest]
    repeat' ((first | (refine AG_of ?_ ?_ <;> intro h) | (refine AB_of ?_ ?_ <;> intro h)) <;> simp only [go_sem, seval, eq_self, reduceCtorEq, nest, h])
    refine A_draw_of [22, 23] [22, 23] (by kernel_rfl) ?_
    simp only [go_sem, seval, eq_self, reduceCtorEq, nest]
    repeat' ((first | (refine AG_of ?_ ?_ <;> intro h) | (refine AB_of ?_ ?_ <;> intro h)) <;> simp only [go_sem, seval, eq_self, reduceCtorEq, nest, h])
    all_goals refine fin_io (by first | exact .inl rfl | exact .inr rfl) (by simp [ownAt, V.isOwn]) ?_
    all_goals simp only [ioOf, Try.results47, Try.ntmps47, go_sem, seval, eq_self, reduceCtorEq, nest, Cell.v, insZ]
  · clear hl
    obtain ⟨lv, hlv⟩ : ∃ lv, l.map Cell.v = lv := ⟨_, rfl⟩
    have f0 : lv.length = l.length := by rw [← hlv, List.length_map]
    have f1 : (lv.length + 1) * 72 ≤ 140737488355328 := by omega
    rw [hlv] at he hsc ⊢
    subst he
    clear hlv
    refine ⟨by simp, ?_⟩
    simp only [go_sem, seval, eq_self, reduceCtorEq, nest]
    repeat' ((first | (refine AG_of ?_ ?_ <;> intro h) | (refine AB_of ?_ ?_ <;> intro h)) <;> simp only [go_sem, seval, eq_self, reduceCtorEq, nest, h])
    refine A_draw_of [22, 1002] [22, 23] (by kernel_rfl) ?_
    simp only [go_sem, seval, eq_self, reduceCtorEq, f1, nest]
    repeat' ((first | (refine AG_of ?_ ?_ <;> intro h) | (refine AB_of ?_ ?_ <;> intro h)) <;> simp only [go_sem, seval, eq_self, reduceCtorEq, f1, nest, h])
    all_goals refine fin_io (by first | exact .inl rfl | exact .inr rfl) (by simp [ownAt, V.isOwn]) ?_
    all_goals simp only [ioOf, Try.results47, Try.ntmps47, go_sem, seval, eq_self, reduceCtorEq, hsc, nest, List.all_append, Cell.v, insZ]

def spRReg : Spec := ⟨[true, false, false], fun xs => match xs with
  | [.obx [.s (.int .i64 pc), .s (.int .i64 off), out], .s (.int .i64 kind), .s (.int .i64 r)] => (cellsOf out).bind fun l => if l.length ≤ 1000 then some (.io 0 (.tup []) (.obx [.s (.int .i64 pc), .s (.int .i64 off), ownC (l ++ [⟨kind, insZ, r, pc, off⟩])])) else none
  | _ => none⟩
set_option maxHeartbeats 2000000 in
theorem rReg_impl : Impl Try.prog 50 spRReg := by
  refine impl_walk mixed cLaw2_ok eqT_ok Try.func50 rfl Try.ntmps50 (by kernel_rfl) ?_
  intro xs r h
  unfold spRReg at h
  simp only at h
  (try split at h) <;> try (cases (show none = some r from h); done)
  rename_i pc off out kind r
  obtain ⟨l, hl, h2⟩ := Option.bind_eq_some_iff.1 h
  clear h
  split at h2
  case isFalse => cases h2
  rename_i hlen
  cases h2
  rw [ownC_snoc]
  have hsc := scal_cell l
  rw [List.map_append]
  rcases cellsOf_cases hl with ⟨rfl, rfl⟩ | ⟨he, _⟩
  · refine ⟨by simp, ?_⟩
    simp only [go_sem, seval, eq_self, reduceCtorEq, nest]
    repeat' ((first | (refine AG_of ?_ ?_ <;> intro h) | (refine AB_of ?_ ?_ <;> intro h)) <;> simp only [go_sem, seval, eq_self, reduceCtorEq, nest, h])
    refine A_draw_of [22, 23] [22, 23] (by kernel_rfl) ?_
    simp only [go_sem, seval, eq_self, reduceCtorEq, nest]
    repeat' ((first | (refine AG_of ?_ ?_ <;> intro h) | (refine AB_of ?_ ?_ <;> intro h)) <;> simp only [go_sem, seval, eq_self, reduceCtorEq, nest, h])
    all_goals refine fin_io (by first | exact .inl rfl | exact .inr rfl) (by simp [ownAt, V.isOwn]) ?_
    all_goals simp only [ioOf, Try.results50, Try.ntmps50, go_sem, seval, eq_self, reduceCtorEq, nest, Cell.v, insZ]
  · clear hl
    obtain ⟨lv, hlv⟩ : ∃ lv, l.map Cell.v = lv := ⟨_, rfl⟩
    have f0 : lv.length = l.length := by rw [← hlv, List.length_map]
    have f1 : (lv.length + 1) * 72 ≤ 140737488355328 := by omega
    rw [hlv] at he hsc ⊢
    subst he
    clear hlv
    refine ⟨by simp, ?_⟩
    simp only [go_sem, seval, eq_self, reduceCtorEq, nest]
    repeat' ((first | (refine AG_of ?_ ?_ <;> intro h) | (refine AB_of ?_ ?_ <;> intro h)) <;> simp only [go_sem, seval, eq_self, reduceCtorEq, nest, h])
    refine A_draw_of [22, 1002] [22, 23] (by kernel_rfl) ?_
    simp only [go_sem, seval, eq_self, reduceCtorEq, f1, nest]
    repeat' ((first | (refine AG_of ?_ ?_ <;> intro h) | (refine AB_of ?_ ?_ <;> intro h)) <;> simp only [go_sem, seval, eq_self, reduceCtorEq, f1, nest, h])
    all_goals refine fin_io (by first | exact .inl rfl | exact .inr rfl) (by simp [ownAt, V.isOwn]) ?_
    all_goals simp only [ioOf, Try.results50, Try.ntmps50, go_sem, seval, eq_self, reduceCtorEq, hsc, nest, List.all_append, Cell.v, insZ]

def spRPlain : Spec := ⟨[true, false], fun xs => match xs with
  | [.obx [.s (.int .i64 pc), .s (.int .i64 off), out], .s (.int .i64 kind)] => (cellsOf out).bind fun l => if l.length ≤ 1000 then some (.io 0 (.tup []) (.obx [.s (.int .i64 pc), .s (.int .i64 off), ownC (l ++ [⟨kind, insZ, 0, pc, off⟩])])) else none
  | _ => none⟩
set_option maxHeartbeats 2000000 in
theorem rPlain_impl : Impl Try.prog 51 spRPlain := by
  refine impl_walk mixed cLaw2_ok eqT_ok Try.func51 rfl Try.ntmps51 (by kernel_rfl) ?_
  intro xs r h
  unfold spRPlain at h
  simp only at h
  (try split at h) <;> try (cases (show none = some r from h); done)
  rename_i pc off out kind
  obtain ⟨l, hl, h2⟩ := Option.bind_eq_some_iff.1 h
  clear h
  split at h2
  case isFalse => cases h2
  rename_i hlen
  cases h2
  rw [ownC_snoc]
  have hsc := scal_cell l
  rw [List.map_append]
  rcases cellsOf_cases hl with ⟨rfl, rfl⟩ | ⟨he, _⟩
  · refine ⟨by simp, ?_⟩
    simp only [go_sem, seval, eq_self, reduceCtorEq, nest]
    repeat' ((first | (refine AG_of ?_ ?_ <;> intro h) | (refine AB_of ?_ ?_ <;> intro h)) <;> simp only [go_sem, seval, eq_self, reduceCtorEq, nest, h])
    refine A_draw_of [19, 20] [19, 20] (by kernel_rfl) ?_
    simp only [go_sem, seval, eq_self, reduceCtorEq, nest]
    repeat' ((first | (refine AG_of ?_ ?_ <;> intro h) | (refine AB_of ?_ ?_ <;> intro h)) <;> simp only [go_sem, seval, eq_self, reduceCtorEq, nest, h])
    all_goals refine fin_io (by first | exact .inl rfl | exact .inr rfl) (by simp [ownAt, V.isOwn]) ?_
    all_goals simp only [ioOf, Try.results51, Try.ntmps51, go_sem, seval, eq_self, reduceCtorEq, nest, Cell.v, insZ]
  · clear hl
    obtain ⟨lv, hlv⟩ : ∃ lv, l.map Cell.v = lv := ⟨_, rfl⟩
    have f0 : lv.length = l.length := by rw [← hlv, List.length_map]
    have f1 : (lv.length + 1) * 72 ≤ 140737488355328 := by omega
    rw [hlv] at he hsc ⊢
    subst he
    clear hlv
    refine ⟨by simp, ?_⟩
    simp only [go_sem, seval, eq_self, reduceCtorEq, nest]
    repeat' ((first | (refine AG_of ?_ ?_ <;> intro h) | (refine AB_of ?_ ?_ <;> intro h)) <;> simp only [go_sem, seval, eq_self, reduceCtorEq, nest, h])
    refine A_draw_of [19, 1002] [19, 20] (by kernel_rfl) ?_
    simp only [go_sem, seval, eq_self, reduceCtorEq, f1, nest]
    repeat' ((first | (refine AG_of ?_ ?_ <;> intro h) | (refine AB_of ?_ ?_ <;> intro h)) <;> simp only [go_sem, seval, eq_self, reduceCtorEq, f1, nest, h])
    all_goals refine fin_io (by first | exact .inl rfl | exact .inr rfl) (by simp [ownAt, V.isOwn]) ?_
    all_goals simp only [ioOf, Try.results51, Try.ntmps51, go_sem, seval, eq_self, reduceCtorEq, hsc, nest, List.all_append, Cell.v, insZ]
end Go.Proofs.Ytnhpkdkffpagdaa
