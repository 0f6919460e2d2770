/-
The registers that an instruction reads, by package isa and by the reference: one list, for any instruction.
-/
import Derived.Test.YtegalldldcaocaaIsaC
namespace Go.Proofs.Ytegalldldcaocaa
open Go.RowKit

theorem one_cell (x : Int) : ∀ u ∈ [Value.int .i64 x], u.oneCell' = true := nums_one .i64 [x]

theorem reads_no (op d a b imm : Int) (h : rightB ⟨op, d, a, b, imm⟩ = false) (w : World) : Calls Try.prog 20 #[.agg #[.int .i64 op, .int .i64 d, .int .i64 a, .int .i64 b, .int .i64 imm]] w fun e w' => ∃ v, e = .returned v ∧ w'.ownsRow w.heap.size 3 1 v 0 (nums .i64 []) ∧ Below w.heap.size w w' := by
  have hr := fun w => right_any ⟨op, d, a, b, imm⟩ w
  rw [h] at hr
  unfold Ins.val at hr
  have HR := hid hr
  clear hr h
  go_enter Try.func20, Try.ntmps20
  go_wp2_with (first | (go_at_call 17; refine (HR.out _).mono ?_; rintro e w1 ⟨rfl, hb⟩; obtain ⟨hc, hf⟩ := bcell hb; have hz : w.heap.size + 1 ≤ w1.heap.size := by have := hb.size; simp at this; omega) | (go_at_call 15; refine (form_any _ _).mono ?_; rintro e w2 ⟨rfl, rfl⟩) | (go_at_call 26; refine (hasA_any _ _).mono ?_; rintro e w2 ⟨rfl, rfl⟩) | (go_at_call 27; refine (hasB_any _ _).mono ?_; rintro e w2 ⟨rfl, rfl⟩))
  go_ret
  exact ⟨_, rfl, own_nil _ _ _ _, below_tr (below_al (Below.refl _ _) _) hb⟩

set_option maxHeartbeats 1000000 in
theorem reads_00 (op d a b imm : Int) (h : rightB ⟨op, d, a, b, imm⟩ = true) (ha : hasAB (form op) = false) (hb1 : hasBB (form op) = false) (w : World) : Calls Try.prog 20 #[.agg #[.int .i64 op, .int .i64 d, .int .i64 a, .int .i64 b, .int .i64 imm]] w fun e w' => ∃ v, e = .returned v ∧ w'.ownsRow w.heap.size 3 1 v 0 (nums .i64 []) ∧ Below w.heap.size w w' := by
  have hr := fun w => right_any ⟨op, d, a, b, imm⟩ w
  rw [h] at hr
  unfold Ins.val at hr
  have HR := hid hr
  clear hr h
  go_enter Try.func20, Try.ntmps20
  go_wp2_with (first | (go_at_call 17; refine (HR.out _).mono ?_; rintro e w1 ⟨rfl, hb⟩; obtain ⟨hc, hf⟩ := bcell hb; have hz : w.heap.size + 1 ≤ w1.heap.size := by have := hb.size; simp at this; omega) | (go_at_call 15; refine (form_any _ _).mono ?_; rintro e w2 ⟨rfl, rfl⟩) | (go_at_call 26; refine (hasA_any _ _).mono ?_; rintro e w2 ⟨rfl, rfl⟩) | (go_at_call 27; refine (hasB_any _ _).mono ?_; rintro e w2 ⟨rfl, rfl⟩))
  go_ret
  exact ⟨_, rfl, own_nil _ _ _ _, below_tr (below_al (Below.refl _ _) _) hb⟩

set_option maxHeartbeats 1000000 in
theorem reads_01 (op d a b imm : Int) (h : rightB ⟨op, d, a, b, imm⟩ = true) (ha : hasAB (form op) = false) (hb1 : hasBB (form op) = true) (hb2 : (b != 0) = false) (w : World) : Calls Try.prog 20 #[.agg #[.int .i64 op, .int .i64 d, .int .i64 a, .int .i64 b, .int .i64 imm]] w fun e w' => ∃ v, e = .returned v ∧ w'.ownsRow w.heap.size 3 1 v 0 (nums .i64 []) ∧ Below w.heap.size w w' := by
  have hr := fun w => right_any ⟨op, d, a, b, imm⟩ w
  rw [h] at hr
  unfold Ins.val at hr
  have HR := hid hr
  clear hr h
  go_enter Try.func20, Try.ntmps20
  go_wp2_with (first | (go_at_call 17; refine (HR.out _).mono ?_; rintro e w1 ⟨rfl, hb⟩; obtain ⟨hc, hf⟩ := bcell hb; have hz : w.heap.size + 1 ≤ w1.heap.size := by have := hb.size; simp at this; omega) | (go_at_call 15; refine (form_any _ _).mono ?_; rintro e w2 ⟨rfl, rfl⟩) | (go_at_call 26; refine (hasA_any _ _).mono ?_; rintro e w2 ⟨rfl, rfl⟩) | (go_at_call 27; refine (hasB_any _ _).mono ?_; rintro e w2 ⟨rfl, rfl⟩))
  go_ret
  exact ⟨_, rfl, own_nil _ _ _ _, below_tr (below_al (Below.refl _ _) _) hb⟩

set_option maxHeartbeats 1000000 in
theorem reads_02 (op d a b imm : Int) (h : rightB ⟨op, d, a, b, imm⟩ = true) (ha : hasAB (form op) = false) (hb1 : hasBB (form op) = true) (hb2 : (b != 0) = true) (w : World) : Calls Try.prog 20 #[.agg #[.int .i64 op, .int .i64 d, .int .i64 a, .int .i64 b, .int .i64 imm]] w fun e w' => ∃ v, e = .returned v ∧ w'.ownsRow w.heap.size 3 1 v 1 (nums .i64 [b]) ∧ Below w.heap.size w w' := by
  have hr := fun w => right_any ⟨op, d, a, b, imm⟩ w
  rw [h] at hr
  unfold Ins.val at hr
  have HR := hid hr
  clear hr h
  go_enter Try.func20, Try.ntmps20
  go_wp2_with (first | (go_at_call 17; refine (HR.out _).mono ?_; rintro e w1 ⟨rfl, hb⟩; obtain ⟨hc, hf⟩ := bcell hb; have hz : w.heap.size + 1 ≤ w1.heap.size := by have := hb.size; simp at this; omega) | (go_at_call 15; refine (form_any _ _).mono ?_; rintro e w2 ⟨rfl, rfl⟩) | (go_at_call 26; refine (hasA_any _ _).mono ?_; rintro e w2 ⟨rfl, rfl⟩) | (go_at_call 27; refine (hasB_any _ _).mono ?_; rintro e w2 ⟨rfl, rfl⟩) | (at_builtin; refine wpl_append w.heap.size rfl 33 3 (.int .i64 0) 1 8 Try.underlying33 (by kernel_rfl) rfl (by omega) (by omega) _ 0 [] (own_nil _ _ _ _) (some ⟨w1.heap.size, 0, none⟩) 1 1 [.int .i64 b] rfl (rd_new _ _ _) (by simp) (one_cell _) (by omega) (by simp; omega) ?_))
  intro v2 w2 o2 g2 b2
  have hb3 : Below w.heap.size w w2 := (below_al (below_tr (below_al (Below.refl _ _) _) hb) _).grown g2 (by simp; omega) (by intro k hk; simp [Value.ownBlock] at hk)
  clear g2 b2
  go_wp2_with (first | (go_at_call 17; refine (HR.out _).mono ?_; rintro e w1 ⟨rfl, hb⟩; obtain ⟨hc, hf⟩ := bcell hb; have hz : w.heap.size + 1 ≤ w1.heap.size := by have := hb.size; simp at this; omega) | (go_at_call 15; refine (form_any _ _).mono ?_; rintro e w3 ⟨rfl, rfl⟩) | (go_at_call 26; refine (hasA_any _ _).mono ?_; rintro e w3 ⟨rfl, rfl⟩) | (go_at_call 27; refine (hasB_any _ _).mono ?_; rintro e w3 ⟨rfl, rfl⟩))
  go_ret
  exact ⟨_, rfl, o2, hb3⟩

set_option maxHeartbeats 1000000 in
theorem reads_10 (op d a b imm : Int) (h : rightB ⟨op, d, a, b, imm⟩ = true) (ha : hasAB (form op) = true) (ha2 : (a != 0) = false) (hb1 : hasBB (form op) = false) (w : World) : Calls Try.prog 20 #[.agg #[.int .i64 op, .int .i64 d, .int .i64 a, .int .i64 b, .int .i64 imm]] w fun e w' => ∃ v, e = .returned v ∧ w'.ownsRow w.heap.size 3 1 v 0 (nums .i64 []) ∧ Below w.heap.size w w' := by
  have hr := fun w => right_any ⟨op, d, a, b, imm⟩ w
  rw [h] at hr
  unfold Ins.val at hr
  have HR := hid hr
  clear hr h
  go_enter Try.func20, Try.ntmps20
  go_wp2_with (first | (go_at_call 17; refine (HR.out _).mono ?_; rintro e w1 ⟨rfl, hb⟩; obtain ⟨hc, hf⟩ := bcell hb; have hz : w.heap.size + 1 ≤ w1.heap.size := by have := hb.size; simp at this; omega) | (go_at_call 15; refine (form_any _ _).mono ?_; rintro e w2 ⟨rfl, rfl⟩) | (go_at_call 26; refine (hasA_any _ _).mono ?_; rintro e w2 ⟨rfl, rfl⟩) | (go_at_call 27; refine (hasB_any _ _).mono ?_; rintro e w2 ⟨rfl, rfl⟩))
  go_ret
  exact ⟨_, rfl, own_nil _ _ _ _, below_tr (below_al (Below.refl _ _) _) hb⟩

set_option maxHeartbeats 1000000 in
theorem reads_11 (op d a b imm : Int) (h : rightB ⟨op, d, a, b, imm⟩ = true) (ha : hasAB (form op) = true) (ha2 : (a != 0) = false) (hb1 : hasBB (form op) = true) (hb2 : (b != 0) = false) (w : World) : Calls Try.prog 20 #[.agg #[.int .i64 op, .int .i64 d, .int .i64 a, .int .i64 b, .int .i64 imm]] w fun e w' => ∃ v, e = .returned v ∧ w'.ownsRow w.heap.size 3 1 v 0 (nums .i64 []) ∧ Below w.heap.size w w' := by
  have hr := fun w => right_any ⟨op, d, a, b, imm⟩ w
  rw [h] at hr
  unfold Ins.val at hr
  have HR := hid hr
  clear hr h
  go_enter Try.func20, Try.ntmps20
  go_wp2_with (first | (go_at_call 17; refine (HR.out _).mono ?_; rintro e w1 ⟨rfl, hb⟩; obtain ⟨hc, hf⟩ := bcell hb; have hz : w.heap.size + 1 ≤ w1.heap.size := by have := hb.size; simp at this; omega) | (go_at_call 15; refine (form_any _ _).mono ?_; rintro e w2 ⟨rfl, rfl⟩) | (go_at_call 26; refine (hasA_any _ _).mono ?_; rintro e w2 ⟨rfl, rfl⟩) | (go_at_call 27; refine (hasB_any _ _).mono ?_; rintro e w2 ⟨rfl, rfl⟩))
  go_ret
  exact ⟨_, rfl, own_nil _ _ _ _, below_tr (below_al (Below.refl _ _) _) hb⟩

set_option maxHeartbeats 1000000 in
theorem reads_12 (op d a b imm : Int) (h : rightB ⟨op, d, a, b, imm⟩ = true) (ha : hasAB (form op) = true) (ha2 : (a != 0) = false) (hb1 : hasBB (form op) = true) (hb2 : (b != 0) = true) (w : World) : Calls Try.prog 20 #[.agg #[.int .i64 op, .int .i64 d, .int .i64 a, .int .i64 b, .int .i64 imm]] w fun e w' => ∃ v, e = .returned v ∧ w'.ownsRow w.heap.size 3 1 v 1 (nums .i64 [b]) ∧ Below w.heap.size w w' := by
  have hr := fun w => right_any ⟨op, d, a, b, imm⟩ w
  rw [h] at hr
  unfold Ins.val at hr
  have HR := hid hr
  clear hr h
  go_enter Try.func20, Try.ntmps20
  go_wp2_with (first | (go_at_call 17; refine (HR.out _).mono ?_; rintro e w1 ⟨rfl, hb⟩; obtain ⟨hc, hf⟩ := bcell hb; have hz : w.heap.size + 1 ≤ w1.heap.size := by have := hb.size; simp at this; omega) | (go_at_call 15; refine (form_any _ _).mono ?_; rintro e w2 ⟨rfl, rfl⟩) | (go_at_call 26; refine (hasA_any _ _).mono ?_; rintro e w2 ⟨rfl, rfl⟩) | (go_at_call 27; refine (hasB_any _ _).mono ?_; rintro e w2 ⟨rfl, rfl⟩) | (at_builtin; refine wpl_append w.heap.size rfl 33 3 (.int .i64 0) 1 8 Try.underlying33 (by kernel_rfl) rfl (by omega) (by omega) _ 0 [] (own_nil _ _ _ _) (some ⟨w1.heap.size, 0, none⟩) 1 1 [.int .i64 b] rfl (rd_new _ _ _) (by simp) (one_cell _) (by omega) (by simp; omega) ?_))
  intro v2 w2 o2 g2 b2
  have hb3 : Below w.heap.size w w2 := (below_al (below_tr (below_al (Below.refl _ _) _) hb) _).grown g2 (by simp; omega) (by intro k hk; simp [Value.ownBlock] at hk)
  clear g2 b2
  go_wp2_with (first | (go_at_call 17; refine (HR.out _).mono ?_; rintro e w1 ⟨rfl, hb⟩; obtain ⟨hc, hf⟩ := bcell hb; have hz : w.heap.size + 1 ≤ w1.heap.size := by have := hb.size; simp at this; omega) | (go_at_call 15; refine (form_any _ _).mono ?_; rintro e w3 ⟨rfl, rfl⟩) | (go_at_call 26; refine (hasA_any _ _).mono ?_; rintro e w3 ⟨rfl, rfl⟩) | (go_at_call 27; refine (hasB_any _ _).mono ?_; rintro e w3 ⟨rfl, rfl⟩))
  go_ret
  exact ⟨_, rfl, o2, hb3⟩

set_option maxHeartbeats 1000000 in
theorem reads_20 (op d a b imm : Int) (h : rightB ⟨op, d, a, b, imm⟩ = true) (ha : hasAB (form op) = true) (ha2 : (a != 0) = true) (hb1 : hasBB (form op) = false) (w : World) : Calls Try.prog 20 #[.agg #[.int .i64 op, .int .i64 d, .int .i64 a, .int .i64 b, .int .i64 imm]] w fun e w' => ∃ v, e = .returned v ∧ w'.ownsRow w.heap.size 3 1 v 1 (nums .i64 [a]) ∧ Below w.heap.size w w' := by
  have hr := fun w => right_any ⟨op, d, a, b, imm⟩ w
  rw [h] at hr
  unfold Ins.val at hr
  have HR := hid hr
  clear hr h
  go_enter Try.func20, Try.ntmps20
  go_wp2_with (first | (go_at_call 17; refine (HR.out _).mono ?_; rintro e w1 ⟨rfl, hb⟩; obtain ⟨hc, hf⟩ := bcell hb; have hz : w.heap.size + 1 ≤ w1.heap.size := by have := hb.size; simp at this; omega) | (go_at_call 15; refine (form_any _ _).mono ?_; rintro e w2 ⟨rfl, rfl⟩) | (go_at_call 26; refine (hasA_any _ _).mono ?_; rintro e w2 ⟨rfl, rfl⟩) | (go_at_call 27; refine (hasB_any _ _).mono ?_; rintro e w2 ⟨rfl, rfl⟩) | (at_builtin; refine wpl_append w.heap.size rfl 33 3 (.int .i64 0) 1 8 Try.underlying33 (by kernel_rfl) rfl (by omega) (by omega) _ 0 [] (own_nil _ _ _ _) (some ⟨w1.heap.size, 0, none⟩) 1 1 [.int .i64 a] rfl (rd_new _ _ _) (by simp) (one_cell _) (by omega) (by simp; omega) ?_))
  intro v2 w2 o2 g2 b2
  have hb3 : Below w.heap.size w w2 := (below_al (below_tr (below_al (Below.refl _ _) _) hb) _).grown g2 (by simp; omega) (by intro k hk; simp [Value.ownBlock] at hk)
  clear g2 b2
  go_wp2_with (first | (go_at_call 17; refine (HR.out _).mono ?_; rintro e w1 ⟨rfl, hb⟩; obtain ⟨hc, hf⟩ := bcell hb; have hz : w.heap.size + 1 ≤ w1.heap.size := by have := hb.size; simp at this; omega) | (go_at_call 15; refine (form_any _ _).mono ?_; rintro e w3 ⟨rfl, rfl⟩) | (go_at_call 26; refine (hasA_any _ _).mono ?_; rintro e w3 ⟨rfl, rfl⟩) | (go_at_call 27; refine (hasB_any _ _).mono ?_; rintro e w3 ⟨rfl, rfl⟩))
  go_ret
  exact ⟨_, rfl, o2, hb3⟩

set_option maxHeartbeats 1000000 in
theorem reads_21 (op d a b imm : Int) (h : rightB ⟨op, d, a, b, imm⟩ = true) (ha : hasAB (form op) = true) (ha2 : (a != 0) = true) (hb1 : hasBB (form op) = true) (hb2 : (b != 0) = false) (w : World) : Calls Try.prog 20 #[.agg #[.int .i64 op, .int .i64 d, .int .i64 a, .int .i64 b, .int .i64 imm]] w fun e w' => ∃ v, e = .returned v ∧ w'.ownsRow w.heap.size 3 1 v 1 (nums .i64 [a]) ∧ Below w.heap.size w w' := by
  have hr := fun w => right_any ⟨op, d, a, b, imm⟩ w
  rw [h] at hr
  unfold Ins.val at hr
  have HR := hid hr
  clear hr h
  go_enter Try.func20, Try.ntmps20
  go_wp2_with (first | (go_at_call 17; refine (HR.out _).mono ?_; rintro e w1 ⟨rfl, hb⟩; obtain ⟨hc, hf⟩ := bcell hb; have hz : w.heap.size + 1 ≤ w1.heap.size := by have := hb.size; simp at this; omega) | (go_at_call 15; refine (form_any _ _).mono ?_; rintro e w2 ⟨rfl, rfl⟩) | (go_at_call 26; refine (hasA_any _ _).mono ?_; rintro e w2 ⟨rfl, rfl⟩) | (go_at_call 27; refine (hasB_any _ _).mono ?_; rintro e w2 ⟨rfl, rfl⟩) | (at_builtin; refine wpl_append w.heap.size rfl 33 3 (.int .i64 0) 1 8 Try.underlying33 (by kernel_rfl) rfl (by omega) (by omega) _ 0 [] (own_nil _ _ _ _) (some ⟨w1.heap.size, 0, none⟩) 1 1 [.int .i64 a] rfl (rd_new _ _ _) (by simp) (one_cell _) (by omega) (by simp; omega) ?_))
  intro v2 w2 o2 g2 b2
  have hb3 : Below w.heap.size w w2 := (below_al (below_tr (below_al (Below.refl _ _) _) hb) _).grown g2 (by simp; omega) (by intro k hk; simp [Value.ownBlock] at hk)
  have hc2 : w2.cell? ⟨w.heap.size, 3, none⟩ = some (.int .i64 b) := by
    have h1 : (w1.alloc (.cells #[.int .i64 a] 3)).cell? ⟨w.heap.size, 3, none⟩ = some (.int .i64 b) := by
      have : w1.cell? ⟨w.heap.size, 3, none⟩ = some (.int .i64 b) := by rw [hc _ _ (by simp)]; simp [go_sem]
      exact cell_below (below_al (Below.refl _ _) _) this
    exact g2.cell h1 (by simp [Value.ownBlock])
  clear g2 b2 hc hf
  go_wp2_with (first | (go_at_call 17; refine (HR.out _).mono ?_; rintro e w1 ⟨rfl, hb⟩; obtain ⟨hc, hf⟩ := bcell hb; have hz : w.heap.size + 1 ≤ w1.heap.size := by have := hb.size; simp at this; omega) | (go_at_call 15; refine (form_any _ _).mono ?_; rintro e w3 ⟨rfl, rfl⟩) | (go_at_call 26; refine (hasA_any _ _).mono ?_; rintro e w3 ⟨rfl, rfl⟩) | (go_at_call 27; refine (hasB_any _ _).mono ?_; rintro e w3 ⟨rfl, rfl⟩))
  go_ret
  exact ⟨_, rfl, o2, hb3⟩

set_option maxHeartbeats 1000000 in
theorem reads_22 (op d a b imm : Int) (h : rightB ⟨op, d, a, b, imm⟩ = true) (ha : hasAB (form op) = true) (ha2 : (a != 0) = true) (hb1 : hasBB (form op) = true) (hb2 : (b != 0) = true) (w : World) : Calls Try.prog 20 #[.agg #[.int .i64 op, .int .i64 d, .int .i64 a, .int .i64 b, .int .i64 imm]] w fun e w' => ∃ v, e = .returned v ∧ w'.ownsRow w.heap.size 3 1 v 2 (nums .i64 [a, b]) ∧ Below w.heap.size w w' := by
  have hr := fun w => right_any ⟨op, d, a, b, imm⟩ w
  rw [h] at hr
  unfold Ins.val at hr
  have HR := hid hr
  clear hr h
  go_enter Try.func20, Try.ntmps20
  go_wp2_with (first | (go_at_call 17; refine (HR.out _).mono ?_; rintro e w1 ⟨rfl, hb⟩; obtain ⟨hc, hf⟩ := bcell hb; have hz : w.heap.size + 1 ≤ w1.heap.size := by have := hb.size; simp at this; omega) | (go_at_call 15; refine (form_any _ _).mono ?_; rintro e w2 ⟨rfl, rfl⟩) | (go_at_call 26; refine (hasA_any _ _).mono ?_; rintro e w2 ⟨rfl, rfl⟩) | (go_at_call 27; refine (hasB_any _ _).mono ?_; rintro e w2 ⟨rfl, rfl⟩) | (at_builtin; refine wpl_append w.heap.size rfl 33 3 (.int .i64 0) 1 8 Try.underlying33 (by kernel_rfl) rfl (by omega) (by omega) _ 0 [] (own_nil _ _ _ _) (some ⟨w1.heap.size, 0, none⟩) 1 1 [.int .i64 a] rfl (rd_new _ _ _) (by simp) (one_cell _) (by omega) (by simp; omega) ?_))
  intro v2 w2 o2 g2 b2
  have hb3 : Below w.heap.size w w2 := (below_al (below_tr (below_al (Below.refl _ _) _) hb) _).grown g2 (by simp; omega) (by intro k hk; simp [Value.ownBlock] at hk)
  have hz2 : w1.heap.size + 1 ≤ w2.heap.size := by have := g2.size; simpa using this
  have hc2 : w2.cell? ⟨w.heap.size, 3, none⟩ = some (.int .i64 b) := by
    have h1 : (w1.alloc (.cells #[.int .i64 a] 3)).cell? ⟨w.heap.size, 3, none⟩ = some (.int .i64 b) := by
      have : w1.cell? ⟨w.heap.size, 3, none⟩ = some (.int .i64 b) := by rw [hc _ _ (by simp)]; simp [go_sem]
      exact cell_below (below_al (Below.refl _ _) _) this
    exact g2.cell h1 (by simp [Value.ownBlock])
  clear g2 b2 hc hf
  go_wp2_with (first | (go_at_call 17; refine (HR.out _).mono ?_; rintro e w1 ⟨rfl, hb⟩; obtain ⟨hc, hf⟩ := bcell hb; have hz : w.heap.size + 1 ≤ w1.heap.size := by have := hb.size; simp at this; omega) | (go_at_call 15; refine (form_any _ _).mono ?_; rintro e w3 ⟨rfl, rfl⟩) | (go_at_call 26; refine (hasA_any _ _).mono ?_; rintro e w3 ⟨rfl, rfl⟩) | (go_at_call 27; refine (hasB_any _ _).mono ?_; rintro e w3 ⟨rfl, rfl⟩) | (at_builtin; refine wpl_append w.heap.size rfl 33 3 (.int .i64 0) 1 8 Try.underlying33 (by kernel_rfl) rfl (by omega) (by omega) _ 1 [.int .i64 a] (o2.alloc _) (some ⟨w2.heap.size, 0, none⟩) 1 1 [.int .i64 b] rfl (rd_new _ _ _) (by simp) (one_cell _) (by omega) (by simp; omega) ?_))
  intro v4 w4 o4 g4 b4
  have hb5 : Below w.heap.size w w4 := (below_al hb3 _).grown g4 (by simp; omega) (own_base o2)
  clear g4 b4
  go_wp2
  go_ret
  exact ⟨_, rfl, o4, hb5⟩

theorem reads_any (i : Ins) (w : World) : Calls Try.prog 20 #[i.val] w fun e w' => ∃ v, e = .returned v ∧ w'.ownsRow w.heap.size 3 1 v (readsL i).length (nums .i64 (readsL i)) ∧ Below w.heap.size w w' := by
  obtain ⟨op, d, a, b, imm⟩ := i
  cases h : rightB ⟨op, d, a, b, imm⟩ with
  | false =>
    have e : readsL ⟨op, d, a, b, imm⟩ = [] := by simp [readsL, h]
    rw [e]
    exact reads_no op d a b imm h w
  | true =>
    cases ha : hasAB (form op) with
    | false =>
      cases hb1 : hasBB (form op) with
      | false =>
        have e : readsL ⟨op, d, a, b, imm⟩ = [] := by simp [readsL, h, ha, hb1]
        rw [e]
        exact reads_00 op d a b imm h ha hb1 w
      | true =>
        cases hb2 : (b != 0) with
        | false =>
          have hb3 : (b == 0) = true := by simpa using hb2
          have e : readsL ⟨op, d, a, b, imm⟩ = [] := by simp [readsL, h, ha, hb1, hb3]
          rw [e]
          exact reads_01 op d a b imm h ha hb1 hb2 w
        | true =>
          have hb3 : (b == 0) = false := by simpa using hb2
          have e : readsL ⟨op, d, a, b, imm⟩ = [b] := by simp [readsL, h, ha, hb1, hb3]
          rw [e]
          exact reads_02 op d a b imm h ha hb1 hb2 w
    | true =>
      cases ha2 : (a != 0) with
      | false =>
        cases hb1 : hasBB (form op) with
        | false =>
          have ha3 : (a == 0) = true := by simpa using ha2
          have e : readsL ⟨op, d, a, b, imm⟩ = [] := by simp [readsL, h, ha, ha3, hb1]
          rw [e]
          exact reads_10 op d a b imm h ha ha2 hb1 w
        | true =>
          cases hb2 : (b != 0) with
          | false =>
            have ha3 : (a == 0) = true := by simpa using ha2
            have hb3 : (b == 0) = true := by simpa using hb2
            have e : readsL ⟨op, d, a, b, imm⟩ = [] := by simp [readsL, h, ha, ha3, hb1, hb3]
            rw [e]
            exact reads_11 op d a b imm h ha ha2 hb1 hb2 w
          | true =>
            have ha3 : (a == 0) = true := by simpa using ha2
            have hb3 : (b == 0) = false := by simpa using hb2
            have e : readsL ⟨op, d, a, b, imm⟩ = [b] := by simp [readsL, h, ha, ha3, hb1, hb3]
            rw [e]
            exact reads_12 op d a b imm h ha ha2 hb1 hb2 w
      | true =>
        cases hb1 : hasBB (form op) with
        | false =>
          have ha3 : (a == 0) = false := by simpa using ha2
          have e : readsL ⟨op, d, a, b, imm⟩ = [a] := by simp [readsL, h, ha, ha3, hb1]
          rw [e]
          exact reads_20 op d a b imm h ha ha2 hb1 w
        | true =>
          cases hb2 : (b != 0) with
          | false =>
            have ha3 : (a == 0) = false := by simpa using ha2
            have hb3 : (b == 0) = true := by simpa using hb2
            have e : readsL ⟨op, d, a, b, imm⟩ = [a] := by simp [readsL, h, ha, ha3, hb1, hb3]
            rw [e]
            exact reads_21 op d a b imm h ha ha2 hb1 hb2 w
          | true =>
            have ha3 : (a == 0) = false := by simpa using ha2
            have hb3 : (b == 0) = false := by simpa using hb2
            have e : readsL ⟨op, d, a, b, imm⟩ = [a, b] := by simp [readsL, h, ha, ha3, hb1, hb3]
            rw [e]
            exact reads_22 op d a b imm h ha ha2 hb1 hb2 w

theorem refReads_no (op d a b imm : Int) (h : rightB ⟨op, d, a, b, imm⟩ = false) (w : World) : Calls Try.prog 21 #[.agg #[.int .i64 op, .int .i64 d, .int .i64 a, .int .i64 b, .int .i64 imm]] w fun e w' => ∃ v, e = .returned v ∧ w'.ownsRow w.heap.size 3 1 v 0 (nums .i64 []) ∧ Below w.heap.size w w' := by
  have hr := fun w => refRight_any ⟨op, d, a, b, imm⟩ w
  rw [h] at hr
  unfold Ins.val at hr
  have HR := hid hr
  clear hr h
  go_enter Try.func21, Try.ntmps21
  go_wp2_with (first | (go_at_call 18; refine (HR.out _).mono ?_; rintro e w1 ⟨rfl, hb⟩; obtain ⟨hc, hf⟩ := bcell hb; have hz : w.heap.size + 1 ≤ w1.heap.size := by have := hb.size; simp at this; omega) | (go_at_call 16; refine (refForm_any _ _).mono ?_; rintro e w2 ⟨rfl, rfl⟩) | (go_at_call 29; refine (refHas_any _ _).mono ?_; rintro e w2 ⟨rfl, rfl⟩))
  go_ret
  exact ⟨_, rfl, own_nil _ _ _ _, below_tr (below_al (Below.refl _ _) _) hb⟩

set_option maxHeartbeats 1000000 in
theorem refReads_00 (op d a b imm : Int) (h : rightB ⟨op, d, a, b, imm⟩ = true) (ha : hasAB (form op) = false) (hb1 : hasBB (form op) = false) (w : World) : Calls Try.prog 21 #[.agg #[.int .i64 op, .int .i64 d, .int .i64 a, .int .i64 b, .int .i64 imm]] w fun e w' => ∃ v, e = .returned v ∧ w'.ownsRow w.heap.size 3 1 v 0 (nums .i64 []) ∧ Below w.heap.size w w' := by
  have hr := fun w => refRight_any ⟨op, d, a, b, imm⟩ w
  rw [h] at hr
  unfold Ins.val at hr
  have HR := hid hr
  clear hr h
  go_enter Try.func21, Try.ntmps21
  go_wp2_with (first | (go_at_call 18; refine (HR.out _).mono ?_; rintro e w1 ⟨rfl, hb⟩; obtain ⟨hc, hf⟩ := bcell hb; have hz : w.heap.size + 1 ≤ w1.heap.size := by have := hb.size; simp at this; omega) | (go_at_call 16; refine (refForm_any _ _).mono ?_; rintro e w2 ⟨rfl, rfl⟩) | (go_at_call 29; refine (refHas_any _ _).mono ?_; rintro e w2 ⟨rfl, rfl⟩))
  go_ret
  exact ⟨_, rfl, own_nil _ _ _ _, below_tr (below_al (Below.refl _ _) _) hb⟩

set_option maxHeartbeats 1000000 in
theorem refReads_01 (op d a b imm : Int) (h : rightB ⟨op, d, a, b, imm⟩ = true) (ha : hasAB (form op) = false) (hb1 : hasBB (form op) = true) (hb2 : (b != 0) = false) (w : World) : Calls Try.prog 21 #[.agg #[.int .i64 op, .int .i64 d, .int .i64 a, .int .i64 b, .int .i64 imm]] w fun e w' => ∃ v, e = .returned v ∧ w'.ownsRow w.heap.size 3 1 v 0 (nums .i64 []) ∧ Below w.heap.size w w' := by
  have hr := fun w => refRight_any ⟨op, d, a, b, imm⟩ w
  rw [h] at hr
  unfold Ins.val at hr
  have HR := hid hr
  clear hr h
  go_enter Try.func21, Try.ntmps21
  go_wp2_with (first | (go_at_call 18; refine (HR.out _).mono ?_; rintro e w1 ⟨rfl, hb⟩; obtain ⟨hc, hf⟩ := bcell hb; have hz : w.heap.size + 1 ≤ w1.heap.size := by have := hb.size; simp at this; omega) | (go_at_call 16; refine (refForm_any _ _).mono ?_; rintro e w2 ⟨rfl, rfl⟩) | (go_at_call 29; refine (refHas_any _ _).mono ?_; rintro e w2 ⟨rfl, rfl⟩))
  go_ret
  exact ⟨_, rfl, own_nil _ _ _ _, below_tr (below_al (Below.refl _ _) _) hb⟩

set_option maxHeartbeats 1000000 in
theorem refReads_02 (op d a b imm : Int) (h : rightB ⟨op, d, a, b, imm⟩ = true) (ha : hasAB (form op) = false) (hb1 : hasBB (form op) = true) (hb2 : (b != 0) = true) (w : World) : Calls Try.prog 21 #[.agg #[.int .i64 op, .int .i64 d, .int .i64 a, .int .i64 b, .int .i64 imm]] w fun e w' => ∃ v, e = .returned v ∧ w'.ownsRow w.heap.size 3 1 v 1 (nums .i64 [b]) ∧ Below w.heap.size w w' := by
  have hr := fun w => refRight_any ⟨op, d, a, b, imm⟩ w
  rw [h] at hr
  unfold Ins.val at hr
  have HR := hid hr
  clear hr h
  go_enter Try.func21, Try.ntmps21
  go_wp2_with (first | (go_at_call 18; refine (HR.out _).mono ?_; rintro e w1 ⟨rfl, hb⟩; obtain ⟨hc, hf⟩ := bcell hb; have hz : w.heap.size + 1 ≤ w1.heap.size := by have := hb.size; simp at this; omega) | (go_at_call 16; refine (refForm_any _ _).mono ?_; rintro e w2 ⟨rfl, rfl⟩) | (go_at_call 29; refine (refHas_any _ _).mono ?_; rintro e w2 ⟨rfl, rfl⟩) | (at_builtin; refine wpl_append w.heap.size rfl 33 3 (.int .i64 0) 1 8 Try.underlying33 (by kernel_rfl) rfl (by omega) (by omega) _ 0 [] (own_nil _ _ _ _) (some ⟨w1.heap.size, 0, none⟩) 1 1 [.int .i64 b] rfl (rd_new _ _ _) (by simp) (one_cell _) (by omega) (by simp; omega) ?_))
  intro v2 w2 o2 g2 b2
  have hb3 : Below w.heap.size w w2 := (below_al (below_tr (below_al (Below.refl _ _) _) hb) _).grown g2 (by simp; omega) (by intro k hk; simp [Value.ownBlock] at hk)
  clear g2 b2
  go_wp2_with (first | (go_at_call 18; refine (HR.out _).mono ?_; rintro e w1 ⟨rfl, hb⟩; obtain ⟨hc, hf⟩ := bcell hb; have hz : w.heap.size + 1 ≤ w1.heap.size := by have := hb.size; simp at this; omega) | (go_at_call 16; refine (refForm_any _ _).mono ?_; rintro e w3 ⟨rfl, rfl⟩) | (go_at_call 29; refine (refHas_any _ _).mono ?_; rintro e w3 ⟨rfl, rfl⟩))
  go_ret
  exact ⟨_, rfl, o2, hb3⟩

set_option maxHeartbeats 1000000 in
theorem refReads_10 (op d a b imm : Int) (h : rightB ⟨op, d, a, b, imm⟩ = true) (ha : hasAB (form op) = true) (ha2 : (a != 0) = false) (hb1 : hasBB (form op) = false) (w : World) : Calls Try.prog 21 #[.agg #[.int .i64 op, .int .i64 d, .int .i64 a, .int .i64 b, .int .i64 imm]] w fun e w' => ∃ v, e = .returned v ∧ w'.ownsRow w.heap.size 3 1 v 0 (nums .i64 []) ∧ Below w.heap.size w w' := by
  have hr := fun w => refRight_any ⟨op, d, a, b, imm⟩ w
  rw [h] at hr
  unfold Ins.val at hr
  have HR := hid hr
  clear hr h
  go_enter Try.func21, Try.ntmps21
  go_wp2_with (first | (go_at_call 18; refine (HR.out _).mono ?_; rintro e w1 ⟨rfl, hb⟩; obtain ⟨hc, hf⟩ := bcell hb; have hz : w.heap.size + 1 ≤ w1.heap.size := by have := hb.size; simp at this; omega) | (go_at_call 16; refine (refForm_any _ _).mono ?_; rintro e w2 ⟨rfl, rfl⟩) | (go_at_call 29; refine (refHas_any _ _).mono ?_; rintro e w2 ⟨rfl, rfl⟩))
  go_ret
  exact ⟨_, rfl, own_nil _ _ _ _, below_tr (below_al (Below.refl _ _) _) hb⟩

set_option maxHeartbeats 1000000 in
theorem refReads_11 (op d a b imm : Int) (h : rightB ⟨op, d, a, b, imm⟩ = true) (ha : hasAB (form op) = true) (ha2 : (a != 0) = false) (hb1 : hasBB (form op) = true) (hb2 : (b != 0) = false) (w : World) : Calls Try.prog 21 #[.agg #[.int .i64 op, .int .i64 d, .int .i64 a, .int .i64 b, .int .i64 imm]] w fun e w' => ∃ v, e = .returned v ∧ w'.ownsRow w.heap.size 3 1 v 0 (nums .i64 []) ∧ Below w.heap.size w w' := by
  have hr := fun w => refRight_any ⟨op, d, a, b, imm⟩ w
  rw [h] at hr
  unfold Ins.val at hr
  have HR := hid hr
  clear hr h
  go_enter Try.func21, Try.ntmps21
  go_wp2_with (first | (go_at_call 18; refine (HR.out _).mono ?_; rintro e w1 ⟨rfl, hb⟩; obtain ⟨hc, hf⟩ := bcell hb; have hz : w.heap.size + 1 ≤ w1.heap.size := by have := hb.size; simp at this; omega) | (go_at_call 16; refine (refForm_any _ _).mono ?_; rintro e w2 ⟨rfl, rfl⟩) | (go_at_call 29; refine (refHas_any _ _).mono ?_; rintro e w2 ⟨rfl, rfl⟩))
  go_ret
  exact ⟨_, rfl, own_nil _ _ _ _, below_tr (below_al (Below.refl _ _) _) hb⟩

set_option maxHeartbeats 1000000 in
theorem refReads_12 (op d a b imm : Int) (h : rightB ⟨op, d, a, b, imm⟩ = true) (ha : hasAB (form op) = true) (ha2 : (a != 0) = false) (hb1 : hasBB (form op) = true) (hb2 : (b != 0) = true) (w : World) : Calls Try.prog 21 #[.agg #[.int .i64 op, .int .i64 d, .int .i64 a, .int .i64 b, .int .i64 imm]] w fun e w' => ∃ v, e = .returned v ∧ w'.ownsRow w.heap.size 3 1 v 1 (nums .i64 [b]) ∧ Below w.heap.size w w' := by
  have hr := fun w => refRight_any ⟨op, d, a, b, imm⟩ w
  rw [h] at hr
  unfold Ins.val at hr
  have HR := hid hr
  clear hr h
  go_enter Try.func21, Try.ntmps21
  go_wp2_with (first | (go_at_call 18; refine (HR.out _).mono ?_; rintro e w1 ⟨rfl, hb⟩; obtain ⟨hc, hf⟩ := bcell hb; have hz : w.heap.size + 1 ≤ w1.heap.size := by have := hb.size; simp at this; omega) | (go_at_call 16; refine (refForm_any _ _).mono ?_; rintro e w2 ⟨rfl, rfl⟩) | (go_at_call 29; refine (refHas_any _ _).mono ?_; rintro e w2 ⟨rfl, rfl⟩) | (at_builtin; refine wpl_append w.heap.size rfl 33 3 (.int .i64 0) 1 8 Try.underlying33 (by kernel_rfl) rfl (by omega) (by omega) _ 0 [] (own_nil _ _ _ _) (some ⟨w1.heap.size, 0, none⟩) 1 1 [.int .i64 b] rfl (rd_new _ _ _) (by simp) (one_cell _) (by omega) (by simp; omega) ?_))
  intro v2 w2 o2 g2 b2
  have hb3 : Below w.heap.size w w2 := (below_al (below_tr (below_al (Below.refl _ _) _) hb) _).grown g2 (by simp; omega) (by intro k hk; simp [Value.ownBlock] at hk)
  clear g2 b2
  go_wp2_with (first | (go_at_call 18; refine (HR.out _).mono ?_; rintro e w1 ⟨rfl, hb⟩; obtain ⟨hc, hf⟩ := bcell hb; have hz : w.heap.size + 1 ≤ w1.heap.size := by have := hb.size; simp at this; omega) | (go_at_call 16; refine (refForm_any _ _).mono ?_; rintro e w3 ⟨rfl, rfl⟩) | (go_at_call 29; refine (refHas_any _ _).mono ?_; rintro e w3 ⟨rfl, rfl⟩))
  go_ret
  exact ⟨_, rfl, o2, hb3⟩

set_option maxHeartbeats 1000000 in
theorem refReads_20 (op d a b imm : Int) (h : rightB ⟨op, d, a, b, imm⟩ = true) (ha : hasAB (form op) = true) (ha2 : (a != 0) = true) (hb1 : hasBB (form op) = false) (w : World) : Calls Try.prog 21 #[.agg #[.int .i64 op, .int .i64 d, .int .i64 a, .int .i64 b, .int .i64 imm]] w fun e w' => ∃ v, e = .returned v ∧ w'.ownsRow w.heap.size 3 1 v 1 (nums .i64 [a]) ∧ Below w.heap.size w w' := by
  have hr := fun w => refRight_any ⟨op, d, a, b, imm⟩ w
  rw [h] at hr
  unfold Ins.val at hr
  have HR := hid hr
  clear hr h
  go_enter Try.func21, Try.ntmps21
  go_wp2_with (first | (go_at_call 18; refine (HR.out _).mono ?_; rintro e w1 ⟨rfl, hb⟩; obtain ⟨hc, hf⟩ := bcell hb; have hz : w.heap.size + 1 ≤ w1.heap.size := by have := hb.size; simp at this; omega) | (go_at_call 16; refine (refForm_any _ _).mono ?_; rintro e w2 ⟨rfl, rfl⟩) | (go_at_call 29; refine (refHas_any _ _).mono ?_; rintro e w2 ⟨rfl, rfl⟩) | (at_builtin; refine wpl_append w.heap.size rfl 33 3 (.int .i64 0) 1 8 Try.underlying33 (by kernel_rfl) rfl (by omega) (by omega) _ 0 [] (own_nil _ _ _ _) (some ⟨w1.heap.size, 0, none⟩) 1 1 [.int .i64 a] rfl (rd_new _ _ _) (by simp) (one_cell _) (by omega) (by simp; omega) ?_))
  intro v2 w2 o2 g2 b2
  have hb3 : Below w.heap.size w w2 := (below_al (below_tr (below_al (Below.refl _ _) _) hb) _).grown g2 (by simp; omega) (by intro k hk; simp [Value.ownBlock] at hk)
  clear g2 b2
  go_wp2_with (first | (go_at_call 18; refine (HR.out _).mono ?_; rintro e w1 ⟨rfl, hb⟩; obtain ⟨hc, hf⟩ := bcell hb; have hz : w.heap.size + 1 ≤ w1.heap.size := by have := hb.size; simp at this; omega) | (go_at_call 16; refine (refForm_any _ _).mono ?_; rintro e w3 ⟨rfl, rfl⟩) | (go_at_call 29; refine (refHas_any _ _).mono ?_; rintro e w3 ⟨rfl, rfl⟩))
  go_ret
  exact ⟨_, rfl, o2, hb3⟩

set_option maxHeartbeats 1000000 in
theorem refReads_21 (op d a b imm : Int) (h : rightB ⟨op, d, a, b, imm⟩ = true) (ha : hasAB (form op) = true) (ha2 : (a != 0) = true) (hb1 : hasBB (form op) = true) (hb2 : (b != 0) = false) (w : World) : Calls Try.prog 21 #[.agg #[.int .i64 op, .int .i64 d, .int .i64 a, .int .i64 b, .int .i64 imm]] w fun e w' => ∃ v, e = .returned v ∧ w'.ownsRow w.heap.size 3 1 v 1 (nums .i64 [a]) ∧ Below w.heap.size w w' := by
  have hr := fun w => refRight_any ⟨op, d, a, b, imm⟩ w
  rw [h] at hr
  unfold Ins.val at hr
  have HR := hid hr
  clear hr h
  go_enter Try.func21, Try.ntmps21
  go_wp2_with (first | (go_at_call 18; refine (HR.out _).mono ?_; rintro e w1 ⟨rfl, hb⟩; obtain ⟨hc, hf⟩ := bcell hb; have hz : w.heap.size + 1 ≤ w1.heap.size := by have := hb.size; simp at this; omega) | (go_at_call 16; refine (refForm_any _ _).mono ?_; rintro e w2 ⟨rfl, rfl⟩) | (go_at_call 29; refine (refHas_any _ _).mono ?_; rintro e w2 ⟨rfl, rfl⟩) | (at_builtin; refine wpl_append w.heap.size rfl 33 3 (.int .i64 0) 1 8 Try.underlying33 (by kernel_rfl) rfl (by omega) (by omega) _ 0 [] (own_nil _ _ _ _) (some ⟨w1.heap.size, 0, none⟩) 1 1 [.int .i64 a] rfl (rd_new _ _ _) (by simp) (one_cell _) (by omega) (by simp; omega) ?_))
  intro v2 w2 o2 g2 b2
  have hb3 : Below w.heap.size w w2 := (below_al (below_tr (below_al (Below.refl _ _) _) hb) _).grown g2 (by simp; omega) (by intro k hk; simp [Value.ownBlock] at hk)
  have hc2 : w2.cell? ⟨w.heap.size, 3, none⟩ = some (.int .i64 b) := by
    have h1 : (w1.alloc (.cells #[.int .i64 a] 3)).cell? ⟨w.heap.size, 3, none⟩ = some (.int .i64 b) := by
      have : w1.cell? ⟨w.heap.size, 3, none⟩ = some (.int .i64 b) := by rw [hc _ _ (by simp)]; simp [go_sem]
      exact cell_below (below_al (Below.refl _ _) _) this
    exact g2.cell h1 (by simp [Value.ownBlock])
  clear g2 b2 hc hf
  go_wp2_with (first | (go_at_call 18; refine (HR.out _).mono ?_; rintro e w1 ⟨rfl, hb⟩; obtain ⟨hc, hf⟩ := bcell hb; have hz : w.heap.size + 1 ≤ w1.heap.size := by have := hb.size; simp at this; omega) | (go_at_call 16; refine (refForm_any _ _).mono ?_; rintro e w3 ⟨rfl, rfl⟩) | (go_at_call 29; refine (refHas_any _ _).mono ?_; rintro e w3 ⟨rfl, rfl⟩))
  go_ret
  exact ⟨_, rfl, o2, hb3⟩

set_option maxHeartbeats 1000000 in
theorem refReads_22 (op d a b imm : Int) (h : rightB ⟨op, d, a, b, imm⟩ = true) (ha : hasAB (form op) = true) (ha2 : (a != 0) = true) (hb1 : hasBB (form op) = true) (hb2 : (b != 0) = true) (w : World) : Calls Try.prog 21 #[.agg #[.int .i64 op, .int .i64 d, .int .i64 a, .int .i64 b, .int .i64 imm]] w fun e w' => ∃ v, e = .returned v ∧ w'.ownsRow w.heap.size 3 1 v 2 (nums .i64 [a, b]) ∧ Below w.heap.size w w' := by
  have hr := fun w => refRight_any ⟨op, d, a, b, imm⟩ w
  rw [h] at hr
  unfold Ins.val at hr
  have HR := hid hr
  clear hr h
  go_enter Try.func21, Try.ntmps21
  go_wp2_with (first | (go_at_call 18; refine (HR.out _).mono ?_; rintro e w1 ⟨rfl, hb⟩; obtain ⟨hc, hf⟩ := bcell hb; have hz : w.heap.size + 1 ≤ w1.heap.size := by have := hb.size; simp at this; omega) | (go_at_call 16; refine (refForm_any _ _).mono ?_; rintro e w2 ⟨rfl, rfl⟩) | (go_at_call 29; refine (refHas_any _ _).mono ?_; rintro e w2 ⟨rfl, rfl⟩) | (at_builtin; refine wpl_append w.heap.size rfl 33 3 (.int .i64 0) 1 8 Try.underlying33 (by kernel_rfl) rfl (by omega) (by omega) _ 0 [] (own_nil _ _ _ _) (some ⟨w1.heap.size, 0, none⟩) 1 1 [.int .i64 a] rfl (rd_new _ _ _) (by simp) (one_cell _) (by omega) (by simp; omega) ?_))
  intro v2 w2 o2 g2 b2
  have hb3 : Below w.heap.size w w2 := (below_al (below_tr (below_al (Below.refl _ _) _) hb) _).grown g2 (by simp; omega) (by intro k hk; simp [Value.ownBlock] at hk)
  have hz2 : w1.heap.size + 1 ≤ w2.heap.size := by have := g2.size; simpa using this
  have hc2 : w2.cell? ⟨w.heap.size, 3, none⟩ = some (.int .i64 b) := by
    have h1 : (w1.alloc (.cells #[.int .i64 a] 3)).cell? ⟨w.heap.size, 3, none⟩ = some (.int .i64 b) := by
      have : w1.cell? ⟨w.heap.size, 3, none⟩ = some (.int .i64 b) := by rw [hc _ _ (by simp)]; simp [go_sem]
      exact cell_below (below_al (Below.refl _ _) _) this
    exact g2.cell h1 (by simp [Value.ownBlock])
  clear g2 b2 hc hf
  go_wp2_with (first | (go_at_call 18; refine (HR.out _).mono ?_; rintro e w1 ⟨rfl, hb⟩; obtain ⟨hc, hf⟩ := bcell hb; have hz : w.heap.size + 1 ≤ w1.heap.size := by have := hb.size; simp at this; omega) | (go_at_call 16; refine (refForm_any _ _).mono ?_; rintro e w3 ⟨rfl, rfl⟩) | (go_at_call 29; refine (refHas_any _ _).mono ?_; rintro e w3 ⟨rfl, rfl⟩) | (at_builtin; refine wpl_append w.heap.size rfl 33 3 (.int .i64 0) 1 8 Try.underlying33 (by kernel_rfl) rfl (by omega) (by omega) _ 1 [.int .i64 a] (o2.alloc _) (some ⟨w2.heap.size, 0, none⟩) 1 1 [.int .i64 b] rfl (rd_new _ _ _) (by simp) (one_cell _) (by omega) (by simp; omega) ?_))
  intro v4 w4 o4 g4 b4
  have hb5 : Below w.heap.size w w4 := (below_al hb3 _).grown g4 (by simp; omega) (own_base o2)
  clear g4 b4
  go_wp2
  go_ret
  exact ⟨_, rfl, o4, hb5⟩

theorem refReads_any (i : Ins) (w : World) : Calls Try.prog 21 #[i.val] w fun e w' => ∃ v, e = .returned v ∧ w'.ownsRow w.heap.size 3 1 v (readsL i).length (nums .i64 (readsL i)) ∧ Below w.heap.size w w' := by
  obtain ⟨op, d, a, b, imm⟩ := i
  cases h : rightB ⟨op, d, a, b, imm⟩ with
  | false =>
    have e : readsL ⟨op, d, a, b, imm⟩ = [] := by simp [readsL, h]
    rw [e]
    exact refReads_no op d a b imm h w
  | true =>
    cases ha : hasAB (form op) with
    | false =>
      cases hb1 : hasBB (form op) with
      | false =>
        have e : readsL ⟨op, d, a, b, imm⟩ = [] := by simp [readsL, h, ha, hb1]
        rw [e]
        exact refReads_00 op d a b imm h ha hb1 w
      | true =>
        cases hb2 : (b != 0) with
        | false =>
          have hb3 : (b == 0) = true := by simpa using hb2
          have e : readsL ⟨op, d, a, b, imm⟩ = [] := by simp [readsL, h, ha, hb1, hb3]
          rw [e]
          exact refReads_01 op d a b imm h ha hb1 hb2 w
        | true =>
          have hb3 : (b == 0) = false := by simpa using hb2
          have e : readsL ⟨op, d, a, b, imm⟩ = [b] := by simp [readsL, h, ha, hb1, hb3]
          rw [e]
          exact refReads_02 op d a b imm h ha hb1 hb2 w
    | true =>
      cases ha2 : (a != 0) with
      | false =>
        cases hb1 : hasBB (form op) with
        | false =>
          have ha3 : (a == 0) = true := by simpa using ha2
          have e : readsL ⟨op, d, a, b, imm⟩ = [] := by simp [readsL, h, ha, ha3, hb1]
          rw [e]
          exact refReads_10 op d a b imm h ha ha2 hb1 w
        | true =>
          cases hb2 : (b != 0) with
          | false =>
            have ha3 : (a == 0) = true := by simpa using ha2
            have hb3 : (b == 0) = true := by simpa using hb2
            have e : readsL ⟨op, d, a, b, imm⟩ = [] := by simp [readsL, h, ha, ha3, hb1, hb3]
            rw [e]
            exact refReads_11 op d a b imm h ha ha2 hb1 hb2 w
          | true =>
            have ha3 : (a == 0) = true := by simpa using ha2
            have hb3 : (b == 0) = false := by simpa using hb2
            have e : readsL ⟨op, d, a, b, imm⟩ = [b] := by simp [readsL, h, ha, ha3, hb1, hb3]
            rw [e]
            exact refReads_12 op d a b imm h ha ha2 hb1 hb2 w
      | true =>
        cases hb1 : hasBB (form op) with
        | false =>
          have ha3 : (a == 0) = false := by simpa using ha2
          have e : readsL ⟨op, d, a, b, imm⟩ = [a] := by simp [readsL, h, ha, ha3, hb1]
          rw [e]
          exact refReads_20 op d a b imm h ha ha2 hb1 w
        | true =>
          cases hb2 : (b != 0) with
          | false =>
            have ha3 : (a == 0) = false := by simpa using ha2
            have hb3 : (b == 0) = true := by simpa using hb2
            have e : readsL ⟨op, d, a, b, imm⟩ = [a] := by simp [readsL, h, ha, ha3, hb1, hb3]
            rw [e]
            exact refReads_21 op d a b imm h ha ha2 hb1 hb2 w
          | true =>
            have ha3 : (a == 0) = false := by simpa using ha2
            have hb3 : (b == 0) = false := by simpa using hb2
            have e : readsL ⟨op, d, a, b, imm⟩ = [a, b] := by simp [readsL, h, ha, ha3, hb1, hb3]
            rw [e]
            exact refReads_22 op d a b imm h ha ha2 hb1 hb2 w

end Go.Proofs.Ytegalldldcaocaa
