/-
The law IsaReads of chapter 2 answers true, whatever its arguments are.
-/
import Derived.Test.YtegalldldcaocaaIsaL2
import Derived.Test.YtegalldldcaocaaReg
namespace Go.Proofs.Ytegalldldcaocaa
open Go.RowKit

set_option maxHeartbeats 2000000 in
theorem isaReads_no (op d a b imm : Int) (w : World) (hr : rightB ⟨op, d, a, b, imm⟩ = false) :
    Calls Try.prog 9 #[.agg #[.int .i64 op, .int .i64 d, .int .i64 a, .int .i64 b, .int .i64 imm]] w fun e w' => e = .returned (.bool true) ∧ Below w.heap.size w w' := by
  have Hs := hid (fun w => reads_any ⟨op, d, a, b, imm⟩ w)
  have Hr := hid (fun w => refRight_any ⟨op, d, a, b, imm⟩ w)
  have Hw := hid (fun w => writes_any ⟨op, d, a, b, imm⟩ w)
  rw [show readsL ⟨op, d, a, b, imm⟩ = [] by unfold readsL; rw [hr]; rfl] at Hs
  rw [show writesI ⟨op, d, a, b, imm⟩ = 0 by unfold writesI; rw [hr]; rfl] at Hw
  rw [hr] at Hr
  simp only [Ins.val] at Hs Hr Hw
  clear hr
  go_enter Try.func9, Try.ntmps9
  go_wp2_with fail
  refine (alive2_any _).mono ?_
  rintro e9 w1 ⟨rfl, b1⟩
  have x1 := (BoxI.new w op d a b imm 23).below b1
  have B1 := below_tr (below_al (Below.refl _ _) _) b1
  obtain ⟨kx0, kx1, kx2, kx3, kx4⟩ := x1.ext
  have hE : Ext w1 w1 := Ext.refl w1
  have hA : ∀ o, Ext w1 (w1.alloc o) := fun o => below_al hE o
  clear b1 x1
  go_wp2_with fail
  refine (Hs.out _).mono ?_
  rintro e9 w9 ⟨v9, rfl, o9, b9⟩
  obtain ⟨A9, c9, e9, r9, q9⟩ := own_rd o9
  subst e9
  have hE' := Ext.tr hE b9 (by exact ⟨rfl, rfl, rfl, rfl⟩)
  clear hE b9 hA o9
  have hE := hE'
  clear hE'
  go_wp2_with fail
  refine (Hr.out _).mono ?_
  rintro e9 w2 ⟨rfl, b9⟩
  replace r9 := r9.below b9
  have hE' := Ext.tr hE b9 (by exact ⟨rfl, rfl, rfl, rfl⟩)
  clear hE b9
  have hE := hE'
  clear hE'
  go_wp2_with (first | (go_at_call 22; refine (Hw.out _).mono ?_; rintro e9 w9 ⟨rfl, b9⟩; have hE' := Ext.tr hE b9 (by exact ⟨rfl, rfl, rfl, rfl⟩); clear hE b9; have hE := hE'; clear hE'))
  go_ret
  exact ⟨rfl, below_tr B1 hE⟩

set_option maxHeartbeats 4000000 in
theorem isaReads_100 (op d imm : Int) (w : World) (hr : rightB ⟨op, d, 0, 0, imm⟩ = true) (hf : form op = 1) (hl : readsL ⟨op, d, 0, 0, imm⟩ = []) :
    Calls Try.prog 9 #[.agg #[.int .i64 op, .int .i64 d, .int .i64 0, .int .i64 0, .int .i64 imm]] w fun e w' => e = .returned (.bool true) ∧ Below w.heap.size w w' := by
  have Hs := hid (fun w => reads_any ⟨op, d, 0, 0, imm⟩ w)
  have Hr := hid (fun w => refRight_any ⟨op, d, 0, 0, imm⟩ w)
  have Hw := hid (fun w => writes_any ⟨op, d, 0, 0, imm⟩ w)
  have Hf := hid (fun w => form_any op w)
  rw [hl] at Hs
  rw [writes_d ⟨op, d, 0, 0, imm⟩ hr] at Hw
  rw [hr] at Hr
  rw [hf] at Hf
  simp only [Ins.val] at Hs Hr Hw
  clear hr hf hl
  go_enter Try.func9, Try.ntmps9
  go_wp2_with fail
  refine (alive2_any _).mono ?_
  rintro e9 w1 ⟨rfl, b1⟩
  have x1 := (BoxI.new w op d 0 0 imm 23).below b1
  have B1 := below_tr (below_al (Below.refl _ _) _) b1
  obtain ⟨kx0, kx1, kx2, kx3, kx4⟩ := x1.ext
  have hE : Ext w1 w1 := Ext.refl w1
  have hA : ∀ o, Ext w1 (w1.alloc o) := fun o => below_al hE o
  clear b1 x1
  go_wp2_with fail
  refine (Hs.out _).mono ?_
  rintro e9 w9 ⟨v9, rfl, o9, b9⟩
  obtain ⟨A9, c9, e9, r9, q9⟩ := own_rd o9
  subst e9
  have hE' := Ext.tr hE b9 (by exact ⟨rfl, rfl, rfl, rfl⟩)
  clear hE b9 hA o9
  have hE := hE'
  clear hE'
  go_wp2_with fail
  refine (Hr.out _).mono ?_
  rintro e9 w2 ⟨rfl, b9⟩
  replace r9 := r9.below b9
  have hE' := Ext.tr hE b9 (by exact ⟨rfl, rfl, rfl, rfl⟩)
  clear hE b9
  have hE := hE'
  clear hE'
  go_wp2_with fail
  refine (Hf.out _).mono ?_
  rintro e9 w9 ⟨rfl, rfl⟩
  have hA : ∀ o, Ext w1 (w2.alloc o) := fun o => below_al hE o
  clear hA
  go_wp2_with fail
  have hS : ∀ W, Eqw W w2 → Calls Try.prog 19 #[.slice A9 0 c9, .slice none 0 0] W fun e w' => e = .returned (.bool true) ∧ Drw W w' := fun W hW => same_eq [] 0 rfl A9 none c9 0 W (by omega) (r9.eqw hW) (Rd.nil _ _)
  have HS := hid hS
  clear hS r9
  refine wp_region_held_np (S := fun W => Ext w1 W) 20 rfl (by kernel_rfl) ?_
  -- 0
  refine' wpAnyH_take (i := 0) (v := ?v0) rfl (by kernel_rfl) (by kernel_rfl) (by kernel_rfl) (fun _ _ _ h => h) (Or.inl ⟨by rfl, ?y0⟩) (by first | assumption | exact Ext.eq hE (by exact ⟨rfl, rfl, rfl, rfl⟩)) ?r0
  case y0 => (intro w hSw; (try simp only [List.getElem_toArray, List.getElem_cons_succ, List.getElem_cons_zero]); (try dsimp only at hSw); go_simp; (try (with_reducible rfl)))
  try simp only [Act.put, List.getElem_toArray, List.getElem_cons_succ, List.getElem_cons_zero, List.setIfInBounds_toArray, List.set_cons_zero, List.set_cons_succ]
  -- 1
  refine' wpAnyH_take (i := 1) (v := ?v1) rfl (by kernel_rfl) (by kernel_rfl) (by kernel_rfl) (fun _ _ _ h => h) (Or.inl ⟨by rfl, ?y1⟩) (by first | assumption | exact Ext.eq hE (by exact ⟨rfl, rfl, rfl, rfl⟩)) ?r1
  case y1 => (intro w hSw; (try simp only [List.getElem_toArray, List.getElem_cons_succ, List.getElem_cons_zero]); (try dsimp only at hSw); go_simp; (try (with_reducible rfl)))
  try simp only [Act.put, List.getElem_toArray, List.getElem_cons_succ, List.getElem_cons_zero, List.setIfInBounds_toArray, List.set_cons_zero, List.set_cons_succ]
  -- effect 2
  refine wpAnyH_all (rs := [2]) (by kernel_rfl) (by simp) ?_
  intro i0 hi0
  obtain rfl : i0 = 2 := by simpa using hi0
  clear hi0
  refine wpOp_do rfl (by rfl) (fun K hK => ?_)
  simp only [List.getElem_toArray, List.getElem_cons_succ, List.getElem_cons_zero]
  go_simp
  refine (HS.out _ (by exact ⟨rfl, rfl, rfl, rfl⟩)).mono ?_
  rintro e9 w9 ⟨rfl, n9, rfl⟩
  refine hK _ _ ⟨Ext.eq hE (by exact ⟨rfl, rfl, rfl, rfl⟩), ?_⟩
  clear hK K
  try simp only [Act.put, List.getElem_toArray, List.getElem_cons_succ, List.getElem_cons_zero, List.setIfInBounds_toArray, List.set_cons_zero, List.set_cons_succ]
  -- 3
  refine' wpAnyH_take (i := 3) (v := ?v3) rfl (by kernel_rfl) (by kernel_rfl) (by kernel_rfl) (fun _ _ _ h => h) (Or.inl ⟨by rfl, ?y3⟩) (by first | assumption | exact Ext.eq hE (by exact ⟨rfl, rfl, rfl, rfl⟩)) ?r3
  case y3 => (intro w hSw; (try simp only [List.getElem_toArray, List.getElem_cons_succ, List.getElem_cons_zero]); (try dsimp only at hSw); go_simp; (try (with_reducible rfl)))
  try simp only [Act.put, List.getElem_toArray, List.getElem_cons_succ, List.getElem_cons_zero, List.setIfInBounds_toArray, List.set_cons_zero, List.set_cons_succ]
  -- 4
  refine' wpAnyH_take (i := 4) (v := ?v4) rfl (by kernel_rfl) (by kernel_rfl) (by kernel_rfl) (fun _ _ _ h => h) (Or.inl ⟨by rfl, ?y4⟩) (by first | assumption | exact Ext.eq hE (by exact ⟨rfl, rfl, rfl, rfl⟩)) ?r4
  case y4 => (intro w hSw; (try simp only [List.getElem_toArray, List.getElem_cons_succ, List.getElem_cons_zero]); (try dsimp only at hSw); go_simp; (try (with_reducible rfl)))
  try simp only [Act.put, List.getElem_toArray, List.getElem_cons_succ, List.getElem_cons_zero, List.setIfInBounds_toArray, List.set_cons_zero, List.set_cons_succ]
  -- 6
  refine' wpAnyH_take (i := 6) (v := ?v6) rfl (by kernel_rfl) (by kernel_rfl) (by kernel_rfl) (fun _ _ _ h => h) (Or.inl ⟨by rfl, ?y6⟩) (by first | assumption | exact Ext.eq hE (by exact ⟨rfl, rfl, rfl, rfl⟩)) ?r6
  case y6 => (intro w hSw; (try simp only [List.getElem_toArray, List.getElem_cons_succ, List.getElem_cons_zero]); (try dsimp only at hSw); go_simp; (try (with_reducible rfl)))
  try simp only [Act.put, List.getElem_toArray, List.getElem_cons_succ, List.getElem_cons_zero, List.setIfInBounds_toArray, List.set_cons_zero, List.set_cons_succ]
  -- 7
  refine' wpAnyH_take (i := 7) (v := ?v7) rfl (by kernel_rfl) (by kernel_rfl) (by kernel_rfl) (fun _ _ _ h => h) (Or.inl ⟨by rfl, ?y7⟩) (by first | assumption | exact Ext.eq hE (by exact ⟨rfl, rfl, rfl, rfl⟩)) ?r7
  case y7 => (intro w hSw; (try simp only [List.getElem_toArray, List.getElem_cons_succ, List.getElem_cons_zero]); (try dsimp only at hSw); go_simp; (try (with_reducible rfl)))
  try simp only [Act.put, List.getElem_toArray, List.getElem_cons_succ, List.getElem_cons_zero, List.setIfInBounds_toArray, List.set_cons_zero, List.set_cons_succ]
  -- effect 5
  refine wpAnyH_all (rs := [5]) (by kernel_rfl) (by simp) ?_
  intro i0 hi0
  obtain rfl : i0 = 5 := by simpa using hi0
  clear hi0
  refine wpOp_do rfl (by rfl) (fun K hK => ?_)
  simp only [List.getElem_toArray, List.getElem_cons_succ, List.getElem_cons_zero]
  go_simp
  refine (Hw.out _).mono ?_
  rintro e9 w9 ⟨rfl, b9⟩
  have hE' := Ext.tr hE b9 (by exact ⟨rfl, rfl, rfl, rfl⟩)
  refine hK _ _ ⟨hE', ?_⟩
  clear hK K hE b9
  have hE := hE'
  clear hE'
  try simp only [Act.put, List.getElem_toArray, List.getElem_cons_succ, List.getElem_cons_zero, List.setIfInBounds_toArray, List.set_cons_zero, List.set_cons_succ]
  -- 8
  refine' wpAnyH_take (i := 8) (v := ?v8) rfl (by kernel_rfl) (by kernel_rfl) (by kernel_rfl) (fun _ _ _ h => h) (Or.inl ⟨by rfl, ?y8⟩) (by first | assumption | exact Ext.eq hE (by exact ⟨rfl, rfl, rfl, rfl⟩)) ?r8
  case y8 => (intro w hSw; (try simp only [List.getElem_toArray, List.getElem_cons_succ, List.getElem_cons_zero]); (try dsimp only at hSw); go_simp; (try (with_reducible rfl)))
  try simp only [Act.put, List.getElem_toArray, List.getElem_cons_succ, List.getElem_cons_zero, List.setIfInBounds_toArray, List.set_cons_zero, List.set_cons_succ]
  -- 9
  refine' wpAnyH_take (i := 9) (v := ?v9) rfl (by kernel_rfl) (by kernel_rfl) (by kernel_rfl) (fun _ _ _ h => h) (Or.inl ⟨by rfl, ?y9⟩) (by first | assumption | exact Ext.eq hE (by exact ⟨rfl, rfl, rfl, rfl⟩)) ?r9
  case y9 => (intro w hSw; (try simp only [List.getElem_toArray, List.getElem_cons_succ, List.getElem_cons_zero]); (try dsimp only at hSw); go_simp; (try (with_reducible rfl)))
  try simp only [Act.put, List.getElem_toArray, List.getElem_cons_succ, List.getElem_cons_zero, List.setIfInBounds_toArray, List.set_cons_zero, List.set_cons_succ]
  -- 10
  refine' wpAnyH_take (i := 10) (v := ?v10) rfl (by kernel_rfl) (by kernel_rfl) (by kernel_rfl) (fun _ _ _ h => h) (Or.inl ⟨by rfl, ?y10⟩) (by first | assumption | exact Ext.eq hE (by exact ⟨rfl, rfl, rfl, rfl⟩)) ?r10
  case y10 => (intro w hSw; (try simp only [List.getElem_toArray, List.getElem_cons_succ, List.getElem_cons_zero]); (try dsimp only at hSw); go_simp; (try (with_reducible rfl)))
  try simp only [Act.put, List.getElem_toArray, List.getElem_cons_succ, List.getElem_cons_zero, List.setIfInBounds_toArray, List.set_cons_zero, List.set_cons_succ]
  -- 11
  refine' wpAnyH_take (i := 11) (v := ?v11) rfl (by kernel_rfl) (by kernel_rfl) (by kernel_rfl) (fun _ _ _ h => h) (Or.inl ⟨by rfl, ?y11⟩) (by first | assumption | exact Ext.eq hE (by exact ⟨rfl, rfl, rfl, rfl⟩)) ?r11
  case y11 => (intro w hSw; (try simp only [List.getElem_toArray, List.getElem_cons_succ, List.getElem_cons_zero]); (try dsimp only at hSw); go_simp; (try (with_reducible rfl)))
  try simp only [Act.put, List.getElem_toArray, List.getElem_cons_succ, List.getElem_cons_zero, List.setIfInBounds_toArray, List.set_cons_zero, List.set_cons_succ]
  -- 12
  refine' wpAnyH_take (i := 12) (v := ?v12) rfl (by kernel_rfl) (by kernel_rfl) (by kernel_rfl) (fun _ _ _ h => h) (Or.inl ⟨by rfl, ?y12⟩) (by first | assumption | exact Ext.eq hE (by exact ⟨rfl, rfl, rfl, rfl⟩)) ?r12
  case y12 => (intro w hSw; (try simp only [List.getElem_toArray, List.getElem_cons_succ, List.getElem_cons_zero]); (try dsimp only at hSw); go_simp; (try (with_reducible rfl)))
  try simp only [Act.put, List.getElem_toArray, List.getElem_cons_succ, List.getElem_cons_zero, List.setIfInBounds_toArray, List.set_cons_zero, List.set_cons_succ]
  -- 13
  refine' wpAnyH_take (i := 13) (v := ?v13) rfl (by kernel_rfl) (by kernel_rfl) (by kernel_rfl) (fun _ _ _ h => h) (Or.inl ⟨by rfl, ?y13⟩) (by first | assumption | exact Ext.eq hE (by exact ⟨rfl, rfl, rfl, rfl⟩)) ?r13
  case y13 => (intro w hSw; (try simp only [List.getElem_toArray, List.getElem_cons_succ, List.getElem_cons_zero]); (try dsimp only at hSw); go_simp; (try (with_reducible rfl)))
  try simp only [Act.put, List.getElem_toArray, List.getElem_cons_succ, List.getElem_cons_zero, List.setIfInBounds_toArray, List.set_cons_zero, List.set_cons_succ]
  -- 14 passed over
  refine wpAnyH_take (i := 14) (v := undef) rfl (by kernel_rfl) (by kernel_rfl) (by kernel_rfl) (fun _ _ _ h => h) (Or.inr ⟨by rfl, rfl⟩) (by first | assumption | exact Ext.eq hE (by exact ⟨rfl, rfl, rfl, rfl⟩)) ?_
  try simp only [Act.put, List.getElem_toArray, List.getElem_cons_succ, List.getElem_cons_zero, List.setIfInBounds_toArray, List.set_cons_zero, List.set_cons_succ]
  -- 15 passed over
  refine wpAnyH_take (i := 15) (v := undef) rfl (by kernel_rfl) (by kernel_rfl) (by kernel_rfl) (fun _ _ _ h => h) (Or.inr ⟨by rfl, rfl⟩) (by first | assumption | exact Ext.eq hE (by exact ⟨rfl, rfl, rfl, rfl⟩)) ?_
  try simp only [Act.put, List.getElem_toArray, List.getElem_cons_succ, List.getElem_cons_zero, List.setIfInBounds_toArray, List.set_cons_zero, List.set_cons_succ]
  -- 16 passed over
  refine wpAnyH_take (i := 16) (v := undef) rfl (by kernel_rfl) (by kernel_rfl) (by kernel_rfl) (fun _ _ _ h => h) (Or.inr ⟨by rfl, rfl⟩) (by first | assumption | exact Ext.eq hE (by exact ⟨rfl, rfl, rfl, rfl⟩)) ?_
  try simp only [Act.put, List.getElem_toArray, List.getElem_cons_succ, List.getElem_cons_zero, List.setIfInBounds_toArray, List.set_cons_zero, List.set_cons_succ]
  -- 17
  refine' wpAnyH_take (i := 17) (v := ?v17) rfl (by kernel_rfl) (by kernel_rfl) (by kernel_rfl) (fun _ _ _ h => h) (Or.inl ⟨by rfl, ?y17⟩) (by first | assumption | exact Ext.eq hE (by exact ⟨rfl, rfl, rfl, rfl⟩)) ?r17
  case y17 => (intro w hSw; (try simp only [List.getElem_toArray, List.getElem_cons_succ, List.getElem_cons_zero]); (try dsimp only at hSw); go_simp; (try (with_reducible rfl)))
  try simp only [Act.put, List.getElem_toArray, List.getElem_cons_succ, List.getElem_cons_zero, List.setIfInBounds_toArray, List.set_cons_zero, List.set_cons_succ]
  -- 18
  refine' wpAnyH_take (i := 18) (v := ?v18) rfl (by kernel_rfl) (by kernel_rfl) (by kernel_rfl) (fun _ _ _ h => h) (Or.inl ⟨by rfl, ?y18⟩) (by first | assumption | exact Ext.eq hE (by exact ⟨rfl, rfl, rfl, rfl⟩)) ?r18
  case y18 => (intro w hSw; (try simp only [List.getElem_toArray, List.getElem_cons_succ, List.getElem_cons_zero]); (try dsimp only at hSw); go_simp; (try (with_reducible rfl)))
  try simp only [Act.put, List.getElem_toArray, List.getElem_cons_succ, List.getElem_cons_zero, List.setIfInBounds_toArray, List.set_cons_zero, List.set_cons_succ]
  -- 19
  refine' wpAnyH_take (i := 19) (v := ?v19) rfl (by kernel_rfl) (by kernel_rfl) (by kernel_rfl) (fun _ _ _ h => h) (Or.inl ⟨by rfl, ?y19⟩) (by first | assumption | exact Ext.eq hE (by exact ⟨rfl, rfl, rfl, rfl⟩)) ?r19
  case y19 => (intro w hSw; (try simp only [List.getElem_toArray, List.getElem_cons_succ, List.getElem_cons_zero]); (try dsimp only at hSw); go_simp; (try (with_reducible rfl)))
  try simp only [Act.put, List.getElem_toArray, List.getElem_cons_succ, List.getElem_cons_zero, List.setIfInBounds_toArray, List.set_cons_zero, List.set_cons_succ]
  refine wpAnyH_done (by kernel_rfl) ?_ _
  refine NoPanic.normal ?_
  go_wp2
  go_ret
  exact ⟨rfl, below_tr B1 (by first | exact hE | exact Ext.eq hE ⟨rfl, rfl, rfl, rfl⟩)⟩

set_option maxHeartbeats 4000000 in
theorem isaReads_101 (op d b imm : Int) (w : World) (hb : 0 < b) (hr : rightB ⟨op, d, 0, b, imm⟩ = true) (hf : form op = 1) (hl : readsL ⟨op, d, 0, b, imm⟩ = [b]) :
    Calls Try.prog 9 #[.agg #[.int .i64 op, .int .i64 d, .int .i64 0, .int .i64 b, .int .i64 imm]] w fun e w' => e = .returned (.bool true) ∧ Below w.heap.size w w' := by
  have Hs := hid (fun w => reads_any ⟨op, d, 0, b, imm⟩ w)
  have Hr := hid (fun w => refRight_any ⟨op, d, 0, b, imm⟩ w)
  have Hw := hid (fun w => writes_any ⟨op, d, 0, b, imm⟩ w)
  have Hf := hid (fun w => form_any op w)
  rw [hl] at Hs
  rw [writes_d ⟨op, d, 0, b, imm⟩ hr] at Hw
  rw [hr] at Hr
  rw [hf] at Hf
  simp only [Ins.val] at Hs Hr Hw
  clear hr hf hl
  go_enter Try.func9, Try.ntmps9
  go_wp2_with fail
  refine (alive2_any _).mono ?_
  rintro e9 w1 ⟨rfl, b1⟩
  have x1 := (BoxI.new w op d 0 b imm 23).below b1
  have B1 := below_tr (below_al (Below.refl _ _) _) b1
  obtain ⟨kx0, kx1, kx2, kx3, kx4⟩ := x1.ext
  have hE : Ext w1 w1 := Ext.refl w1
  have hA : ∀ o, Ext w1 (w1.alloc o) := fun o => below_al hE o
  clear b1 x1
  go_wp2_with fail
  refine (Hs.out _).mono ?_
  rintro e9 w9 ⟨v9, rfl, o9, b9⟩
  obtain ⟨A9, c9, e9, r9, q9⟩ := own_rd o9
  subst e9
  have hE' := Ext.tr hE b9 (by exact ⟨rfl, rfl, rfl, rfl⟩)
  clear hE b9 hA o9
  have hE := hE'
  clear hE'
  go_wp2_with fail
  refine (Hr.out _).mono ?_
  rintro e9 w2 ⟨rfl, b9⟩
  replace r9 := r9.below b9
  have hE' := Ext.tr hE b9 (by exact ⟨rfl, rfl, rfl, rfl⟩)
  clear hE b9
  have hE := hE'
  clear hE'
  go_wp2_with fail
  refine (Hf.out _).mono ?_
  rintro e9 w9 ⟨rfl, rfl⟩
  have hA : ∀ o, Ext w1 (w2.alloc o) := fun o => below_al hE o
  go_wp2_with (at_builtin; refine wpl_append w2.heap.size rfl 33 3 (.int .i64 0) 1 8 Try.underlying33 (by kernel_rfl) rfl (by omega) (by omega) _ 0 [] (own_nil _ _ _ _) (some ⟨w2.heap.size, 0, none⟩) 1 1 [.int .i64 b] rfl (rd_new _ _ _) (by simp) (one_cell _) (by omega) (by simp) ?_)
  intro v3 w3 o3 g3 b3
  have k3 : Below w2.heap.size w2 w3 := (below_al (Below.refl _ _) _).grown g3 (by simp) (by intro k hk; simp [Value.ownBlock] at hk)
  replace r9 := r9.below k3
  have hE' := Ext.tr hE k3 (by exact ⟨rfl, rfl, rfl, rfl⟩)
  clear hE hA g3 b3
  have hE := hE'
  clear hE'
  obtain ⟨A3, c3, e3, r3, q3⟩ := own_rd o3
  subst e3
  clear o3
  go_wp2_with fail
  have hS : ∀ W, Eqw W w3 → Calls Try.prog 19 #[.slice A9 1 c9, .slice A3 1 c3] W fun e w' => e = .returned (.bool true) ∧ Drw W w' := fun W hW => same_eq [b] 1 rfl A9 A3 c9 c3 W (by omega) (r9.eqw hW) (r3.eqw hW)
  have HS := hid hS
  clear hS r9 r3
  refine wp_region_held_np (S := fun W => Ext w1 W) 20 rfl (by kernel_rfl) ?_
  -- 0
  refine' wpAnyH_take (i := 0) (v := ?v0) rfl (by kernel_rfl) (by kernel_rfl) (by kernel_rfl) (fun _ _ _ h => h) (Or.inl ⟨by rfl, ?y0⟩) (by first | assumption | exact Ext.eq hE (by exact ⟨rfl, rfl, rfl, rfl⟩)) ?r0
  case y0 => (intro w hSw; (try simp only [List.getElem_toArray, List.getElem_cons_succ, List.getElem_cons_zero]); (try dsimp only at hSw); go_simp; (try (with_reducible rfl)))
  try simp only [Act.put, List.getElem_toArray, List.getElem_cons_succ, List.getElem_cons_zero, List.setIfInBounds_toArray, List.set_cons_zero, List.set_cons_succ]
  -- 1
  refine' wpAnyH_take (i := 1) (v := ?v1) rfl (by kernel_rfl) (by kernel_rfl) (by kernel_rfl) (fun _ _ _ h => h) (Or.inl ⟨by rfl, ?y1⟩) (by first | assumption | exact Ext.eq hE (by exact ⟨rfl, rfl, rfl, rfl⟩)) ?r1
  case y1 => (intro w hSw; (try simp only [List.getElem_toArray, List.getElem_cons_succ, List.getElem_cons_zero]); (try dsimp only at hSw); go_simp; (try (with_reducible rfl)))
  try simp only [Act.put, List.getElem_toArray, List.getElem_cons_succ, List.getElem_cons_zero, List.setIfInBounds_toArray, List.set_cons_zero, List.set_cons_succ]
  -- effect 2
  refine wpAnyH_all (rs := [2]) (by kernel_rfl) (by simp) ?_
  intro i0 hi0
  obtain rfl : i0 = 2 := by simpa using hi0
  clear hi0
  refine wpOp_do rfl (by rfl) (fun K hK => ?_)
  simp only [List.getElem_toArray, List.getElem_cons_succ, List.getElem_cons_zero]
  go_simp
  refine (HS.out _ (by exact ⟨rfl, rfl, rfl, rfl⟩)).mono ?_
  rintro e9 w9 ⟨rfl, n9, rfl⟩
  refine hK _ _ ⟨Ext.eq hE (by exact ⟨rfl, rfl, rfl, rfl⟩), ?_⟩
  clear hK K
  try simp only [Act.put, List.getElem_toArray, List.getElem_cons_succ, List.getElem_cons_zero, List.setIfInBounds_toArray, List.set_cons_zero, List.set_cons_succ]
  -- 3
  refine' wpAnyH_take (i := 3) (v := ?v3) rfl (by kernel_rfl) (by kernel_rfl) (by kernel_rfl) (fun _ _ _ h => h) (Or.inl ⟨by rfl, ?y3⟩) (by first | assumption | exact Ext.eq hE (by exact ⟨rfl, rfl, rfl, rfl⟩)) ?r3
  case y3 => (intro w hSw; (try simp only [List.getElem_toArray, List.getElem_cons_succ, List.getElem_cons_zero]); (try dsimp only at hSw); go_simp; (try (with_reducible rfl)))
  try simp only [Act.put, List.getElem_toArray, List.getElem_cons_succ, List.getElem_cons_zero, List.setIfInBounds_toArray, List.set_cons_zero, List.set_cons_succ]
  -- 4
  refine' wpAnyH_take (i := 4) (v := ?v4) rfl (by kernel_rfl) (by kernel_rfl) (by kernel_rfl) (fun _ _ _ h => h) (Or.inl ⟨by rfl, ?y4⟩) (by first | assumption | exact Ext.eq hE (by exact ⟨rfl, rfl, rfl, rfl⟩)) ?r4
  case y4 => (intro w hSw; (try simp only [List.getElem_toArray, List.getElem_cons_succ, List.getElem_cons_zero]); (try dsimp only at hSw); go_simp; (try (with_reducible rfl)))
  try simp only [Act.put, List.getElem_toArray, List.getElem_cons_succ, List.getElem_cons_zero, List.setIfInBounds_toArray, List.set_cons_zero, List.set_cons_succ]
  -- 6
  refine' wpAnyH_take (i := 6) (v := ?v6) rfl (by kernel_rfl) (by kernel_rfl) (by kernel_rfl) (fun _ _ _ h => h) (Or.inl ⟨by rfl, ?y6⟩) (by first | assumption | exact Ext.eq hE (by exact ⟨rfl, rfl, rfl, rfl⟩)) ?r6
  case y6 => (intro w hSw; (try simp only [List.getElem_toArray, List.getElem_cons_succ, List.getElem_cons_zero]); (try dsimp only at hSw); go_simp; (try (with_reducible rfl)))
  try simp only [Act.put, List.getElem_toArray, List.getElem_cons_succ, List.getElem_cons_zero, List.setIfInBounds_toArray, List.set_cons_zero, List.set_cons_succ]
  -- 7
  refine' wpAnyH_take (i := 7) (v := ?v7) rfl (by kernel_rfl) (by kernel_rfl) (by kernel_rfl) (fun _ _ _ h => h) (Or.inl ⟨by rfl, ?y7⟩) (by first | assumption | exact Ext.eq hE (by exact ⟨rfl, rfl, rfl, rfl⟩)) ?r7
  case y7 => (intro w hSw; (try simp only [List.getElem_toArray, List.getElem_cons_succ, List.getElem_cons_zero]); (try dsimp only at hSw); go_simp; (try (with_reducible rfl)))
  try simp only [Act.put, List.getElem_toArray, List.getElem_cons_succ, List.getElem_cons_zero, List.setIfInBounds_toArray, List.set_cons_zero, List.set_cons_succ]
  -- effect 5
  refine wpAnyH_all (rs := [5]) (by kernel_rfl) (by simp) ?_
  intro i0 hi0
  obtain rfl : i0 = 5 := by simpa using hi0
  clear hi0
  refine wpOp_do rfl (by rfl) (fun K hK => ?_)
  simp only [List.getElem_toArray, List.getElem_cons_succ, List.getElem_cons_zero]
  go_simp
  refine (Hw.out _).mono ?_
  rintro e9 w9 ⟨rfl, b9⟩
  have hE' := Ext.tr hE b9 (by exact ⟨rfl, rfl, rfl, rfl⟩)
  refine hK _ _ ⟨hE', ?_⟩
  clear hK K hE b9
  have hE := hE'
  clear hE'
  try simp only [Act.put, List.getElem_toArray, List.getElem_cons_succ, List.getElem_cons_zero, List.setIfInBounds_toArray, List.set_cons_zero, List.set_cons_succ]
  -- 8
  refine' wpAnyH_take (i := 8) (v := ?v8) rfl (by kernel_rfl) (by kernel_rfl) (by kernel_rfl) (fun _ _ _ h => h) (Or.inl ⟨by rfl, ?y8⟩) (by first | assumption | exact Ext.eq hE (by exact ⟨rfl, rfl, rfl, rfl⟩)) ?r8
  case y8 => (intro w hSw; (try simp only [List.getElem_toArray, List.getElem_cons_succ, List.getElem_cons_zero]); (try dsimp only at hSw); go_simp; (try (with_reducible rfl)))
  try simp only [Act.put, List.getElem_toArray, List.getElem_cons_succ, List.getElem_cons_zero, List.setIfInBounds_toArray, List.set_cons_zero, List.set_cons_succ]
  -- 9
  refine' wpAnyH_take (i := 9) (v := ?v9) rfl (by kernel_rfl) (by kernel_rfl) (by kernel_rfl) (fun _ _ _ h => h) (Or.inl ⟨by rfl, ?y9⟩) (by first | assumption | exact Ext.eq hE (by exact ⟨rfl, rfl, rfl, rfl⟩)) ?r9
  case y9 => (intro w hSw; (try simp only [List.getElem_toArray, List.getElem_cons_succ, List.getElem_cons_zero]); (try dsimp only at hSw); go_simp; (try (with_reducible rfl)))
  try simp only [Act.put, List.getElem_toArray, List.getElem_cons_succ, List.getElem_cons_zero, List.setIfInBounds_toArray, List.set_cons_zero, List.set_cons_succ]
  -- 10
  refine' wpAnyH_take (i := 10) (v := ?v10) rfl (by kernel_rfl) (by kernel_rfl) (by kernel_rfl) (fun _ _ _ h => h) (Or.inl ⟨by rfl, ?y10⟩) (by first | assumption | exact Ext.eq hE (by exact ⟨rfl, rfl, rfl, rfl⟩)) ?r10
  case y10 => (intro w hSw; (try simp only [List.getElem_toArray, List.getElem_cons_succ, List.getElem_cons_zero]); (try dsimp only at hSw); go_simp; (try (with_reducible rfl)))
  try simp only [Act.put, List.getElem_toArray, List.getElem_cons_succ, List.getElem_cons_zero, List.setIfInBounds_toArray, List.set_cons_zero, List.set_cons_succ]
  -- 11
  refine' wpAnyH_take (i := 11) (v := ?v11) rfl (by kernel_rfl) (by kernel_rfl) (by kernel_rfl) (fun _ _ _ h => h) (Or.inl ⟨by rfl, ?y11⟩) (by first | assumption | exact Ext.eq hE (by exact ⟨rfl, rfl, rfl, rfl⟩)) ?r11
  case y11 => (intro w hSw; (try simp only [List.getElem_toArray, List.getElem_cons_succ, List.getElem_cons_zero]); (try dsimp only at hSw); go_simp; (try (with_reducible rfl)))
  try simp only [Act.put, List.getElem_toArray, List.getElem_cons_succ, List.getElem_cons_zero, List.setIfInBounds_toArray, List.set_cons_zero, List.set_cons_succ]
  -- 12
  refine' wpAnyH_take (i := 12) (v := ?v12) rfl (by kernel_rfl) (by kernel_rfl) (by kernel_rfl) (fun _ _ _ h => h) (Or.inl ⟨by rfl, ?y12⟩) (by first | assumption | exact Ext.eq hE (by exact ⟨rfl, rfl, rfl, rfl⟩)) ?r12
  case y12 => (intro w hSw; (try simp only [List.getElem_toArray, List.getElem_cons_succ, List.getElem_cons_zero]); (try dsimp only at hSw); go_simp; (try (with_reducible rfl)))
  try simp only [Act.put, List.getElem_toArray, List.getElem_cons_succ, List.getElem_cons_zero, List.setIfInBounds_toArray, List.set_cons_zero, List.set_cons_succ]
  -- 13
  refine' wpAnyH_take (i := 13) (v := ?v13) rfl (by kernel_rfl) (by kernel_rfl) (by kernel_rfl) (fun _ _ _ h => h) (Or.inl ⟨by rfl, ?y13⟩) (by first | assumption | exact Ext.eq hE (by exact ⟨rfl, rfl, rfl, rfl⟩)) ?r13
  case y13 => (intro w hSw; (try simp only [List.getElem_toArray, List.getElem_cons_succ, List.getElem_cons_zero]); (try dsimp only at hSw); go_simp; (try (with_reducible rfl)))
  try simp only [Act.put, List.getElem_toArray, List.getElem_cons_succ, List.getElem_cons_zero, List.setIfInBounds_toArray, List.set_cons_zero, List.set_cons_succ]
  -- 14 passed over
  refine wpAnyH_take (i := 14) (v := undef) rfl (by kernel_rfl) (by kernel_rfl) (by kernel_rfl) (fun _ _ _ h => h) (Or.inr ⟨by rfl, rfl⟩) (by first | assumption | exact Ext.eq hE (by exact ⟨rfl, rfl, rfl, rfl⟩)) ?_
  try simp only [Act.put, List.getElem_toArray, List.getElem_cons_succ, List.getElem_cons_zero, List.setIfInBounds_toArray, List.set_cons_zero, List.set_cons_succ]
  -- 15 passed over
  refine wpAnyH_take (i := 15) (v := undef) rfl (by kernel_rfl) (by kernel_rfl) (by kernel_rfl) (fun _ _ _ h => h) (Or.inr ⟨by rfl, rfl⟩) (by first | assumption | exact Ext.eq hE (by exact ⟨rfl, rfl, rfl, rfl⟩)) ?_
  try simp only [Act.put, List.getElem_toArray, List.getElem_cons_succ, List.getElem_cons_zero, List.setIfInBounds_toArray, List.set_cons_zero, List.set_cons_succ]
  -- 16 passed over
  refine wpAnyH_take (i := 16) (v := undef) rfl (by kernel_rfl) (by kernel_rfl) (by kernel_rfl) (fun _ _ _ h => h) (Or.inr ⟨by rfl, rfl⟩) (by first | assumption | exact Ext.eq hE (by exact ⟨rfl, rfl, rfl, rfl⟩)) ?_
  try simp only [Act.put, List.getElem_toArray, List.getElem_cons_succ, List.getElem_cons_zero, List.setIfInBounds_toArray, List.set_cons_zero, List.set_cons_succ]
  -- 17
  refine' wpAnyH_take (i := 17) (v := ?v17) rfl (by kernel_rfl) (by kernel_rfl) (by kernel_rfl) (fun _ _ _ h => h) (Or.inl ⟨by rfl, ?y17⟩) (by first | assumption | exact Ext.eq hE (by exact ⟨rfl, rfl, rfl, rfl⟩)) ?r17
  case y17 => (intro w hSw; (try simp only [List.getElem_toArray, List.getElem_cons_succ, List.getElem_cons_zero]); (try dsimp only at hSw); go_simp; (try (with_reducible rfl)))
  try simp only [Act.put, List.getElem_toArray, List.getElem_cons_succ, List.getElem_cons_zero, List.setIfInBounds_toArray, List.set_cons_zero, List.set_cons_succ]
  -- 18
  refine' wpAnyH_take (i := 18) (v := ?v18) rfl (by kernel_rfl) (by kernel_rfl) (by kernel_rfl) (fun _ _ _ h => h) (Or.inl ⟨by rfl, ?y18⟩) (by first | assumption | exact Ext.eq hE (by exact ⟨rfl, rfl, rfl, rfl⟩)) ?r18
  case y18 => (intro w hSw; (try simp only [List.getElem_toArray, List.getElem_cons_succ, List.getElem_cons_zero]); (try dsimp only at hSw); go_simp; (try (with_reducible rfl)))
  try simp only [Act.put, List.getElem_toArray, List.getElem_cons_succ, List.getElem_cons_zero, List.setIfInBounds_toArray, List.set_cons_zero, List.set_cons_succ]
  -- 19
  refine' wpAnyH_take (i := 19) (v := ?v19) rfl (by kernel_rfl) (by kernel_rfl) (by kernel_rfl) (fun _ _ _ h => h) (Or.inl ⟨by rfl, ?y19⟩) (by first | assumption | exact Ext.eq hE (by exact ⟨rfl, rfl, rfl, rfl⟩)) ?r19
  case y19 => (intro w hSw; (try simp only [List.getElem_toArray, List.getElem_cons_succ, List.getElem_cons_zero]); (try dsimp only at hSw); go_simp; (try (with_reducible rfl)))
  try simp only [Act.put, List.getElem_toArray, List.getElem_cons_succ, List.getElem_cons_zero, List.setIfInBounds_toArray, List.set_cons_zero, List.set_cons_succ]
  refine wpAnyH_done (by kernel_rfl) ?_ _
  refine NoPanic.normal ?_
  go_wp2
  go_ret
  exact ⟨rfl, below_tr B1 (by first | exact hE | exact Ext.eq hE ⟨rfl, rfl, rfl, rfl⟩)⟩

set_option maxHeartbeats 4000000 in
theorem isaReads_110 (op d a imm : Int) (w : World) (ha : 0 < a) (hr : rightB ⟨op, d, a, 0, imm⟩ = true) (hf : form op = 1) (hl : readsL ⟨op, d, a, 0, imm⟩ = [a]) :
    Calls Try.prog 9 #[.agg #[.int .i64 op, .int .i64 d, .int .i64 a, .int .i64 0, .int .i64 imm]] w fun e w' => e = .returned (.bool true) ∧ Below w.heap.size w w' := by
  have Hs := hid (fun w => reads_any ⟨op, d, a, 0, imm⟩ w)
  have Hr := hid (fun w => refRight_any ⟨op, d, a, 0, imm⟩ w)
  have Hw := hid (fun w => writes_any ⟨op, d, a, 0, imm⟩ w)
  have Hf := hid (fun w => form_any op w)
  rw [hl] at Hs
  rw [writes_d ⟨op, d, a, 0, imm⟩ hr] at Hw
  rw [hr] at Hr
  rw [hf] at Hf
  simp only [Ins.val] at Hs Hr Hw
  clear hr hf hl
  go_enter Try.func9, Try.ntmps9
  go_wp2_with fail
  refine (alive2_any _).mono ?_
  rintro e9 w1 ⟨rfl, b1⟩
  have x1 := (BoxI.new w op d a 0 imm 23).below b1
  have B1 := below_tr (below_al (Below.refl _ _) _) b1
  obtain ⟨kx0, kx1, kx2, kx3, kx4⟩ := x1.ext
  have hE : Ext w1 w1 := Ext.refl w1
  have hA : ∀ o, Ext w1 (w1.alloc o) := fun o => below_al hE o
  clear b1 x1
  go_wp2_with fail
  refine (Hs.out _).mono ?_
  rintro e9 w9 ⟨v9, rfl, o9, b9⟩
  obtain ⟨A9, c9, e9, r9, q9⟩ := own_rd o9
  subst e9
  have hE' := Ext.tr hE b9 (by exact ⟨rfl, rfl, rfl, rfl⟩)
  clear hE b9 hA o9
  have hE := hE'
  clear hE'
  go_wp2_with fail
  refine (Hr.out _).mono ?_
  rintro e9 w2 ⟨rfl, b9⟩
  replace r9 := r9.below b9
  have hE' := Ext.tr hE b9 (by exact ⟨rfl, rfl, rfl, rfl⟩)
  clear hE b9
  have hE := hE'
  clear hE'
  go_wp2_with fail
  refine (Hf.out _).mono ?_
  rintro e9 w9 ⟨rfl, rfl⟩
  have hA : ∀ o, Ext w1 (w2.alloc o) := fun o => below_al hE o
  go_wp2_with (at_builtin; refine wpl_append w2.heap.size rfl 33 3 (.int .i64 0) 1 8 Try.underlying33 (by kernel_rfl) rfl (by omega) (by omega) _ 0 [] (own_nil _ _ _ _) (some ⟨w2.heap.size, 0, none⟩) 1 1 [.int .i64 a] rfl (rd_new _ _ _) (by simp) (one_cell _) (by omega) (by simp) ?_)
  intro v3 w3 o3 g3 b3
  have k3 : Below w2.heap.size w2 w3 := (below_al (Below.refl _ _) _).grown g3 (by simp) (by intro k hk; simp [Value.ownBlock] at hk)
  replace r9 := r9.below k3
  have hE' := Ext.tr hE k3 (by exact ⟨rfl, rfl, rfl, rfl⟩)
  clear hE hA g3 b3
  have hE := hE'
  clear hE'
  obtain ⟨A3, c3, e3, r3, q3⟩ := own_rd o3
  subst e3
  clear o3
  go_wp2_with fail
  have hS : ∀ W, Eqw W w3 → Calls Try.prog 19 #[.slice A9 1 c9, .slice A3 1 c3] W fun e w' => e = .returned (.bool true) ∧ Drw W w' := fun W hW => same_eq [a] 1 rfl A9 A3 c9 c3 W (by omega) (r9.eqw hW) (r3.eqw hW)
  have HS := hid hS
  clear hS r9 r3
  refine wp_region_held_np (S := fun W => Ext w1 W) 20 rfl (by kernel_rfl) ?_
  -- 0
  refine' wpAnyH_take (i := 0) (v := ?v0) rfl (by kernel_rfl) (by kernel_rfl) (by kernel_rfl) (fun _ _ _ h => h) (Or.inl ⟨by rfl, ?y0⟩) (by first | assumption | exact Ext.eq hE (by exact ⟨rfl, rfl, rfl, rfl⟩)) ?r0
  case y0 => (intro w hSw; (try simp only [List.getElem_toArray, List.getElem_cons_succ, List.getElem_cons_zero]); (try dsimp only at hSw); go_simp; (try (with_reducible rfl)))
  try simp only [Act.put, List.getElem_toArray, List.getElem_cons_succ, List.getElem_cons_zero, List.setIfInBounds_toArray, List.set_cons_zero, List.set_cons_succ]
  -- 1
  refine' wpAnyH_take (i := 1) (v := ?v1) rfl (by kernel_rfl) (by kernel_rfl) (by kernel_rfl) (fun _ _ _ h => h) (Or.inl ⟨by rfl, ?y1⟩) (by first | assumption | exact Ext.eq hE (by exact ⟨rfl, rfl, rfl, rfl⟩)) ?r1
  case y1 => (intro w hSw; (try simp only [List.getElem_toArray, List.getElem_cons_succ, List.getElem_cons_zero]); (try dsimp only at hSw); go_simp; (try (with_reducible rfl)))
  try simp only [Act.put, List.getElem_toArray, List.getElem_cons_succ, List.getElem_cons_zero, List.setIfInBounds_toArray, List.set_cons_zero, List.set_cons_succ]
  -- effect 2
  refine wpAnyH_all (rs := [2]) (by kernel_rfl) (by simp) ?_
  intro i0 hi0
  obtain rfl : i0 = 2 := by simpa using hi0
  clear hi0
  refine wpOp_do rfl (by rfl) (fun K hK => ?_)
  simp only [List.getElem_toArray, List.getElem_cons_succ, List.getElem_cons_zero]
  go_simp
  refine (HS.out _ (by exact ⟨rfl, rfl, rfl, rfl⟩)).mono ?_
  rintro e9 w9 ⟨rfl, n9, rfl⟩
  refine hK _ _ ⟨Ext.eq hE (by exact ⟨rfl, rfl, rfl, rfl⟩), ?_⟩
  clear hK K
  try simp only [Act.put, List.getElem_toArray, List.getElem_cons_succ, List.getElem_cons_zero, List.setIfInBounds_toArray, List.set_cons_zero, List.set_cons_succ]
  -- 3
  refine' wpAnyH_take (i := 3) (v := ?v3) rfl (by kernel_rfl) (by kernel_rfl) (by kernel_rfl) (fun _ _ _ h => h) (Or.inl ⟨by rfl, ?y3⟩) (by first | assumption | exact Ext.eq hE (by exact ⟨rfl, rfl, rfl, rfl⟩)) ?r3
  case y3 => (intro w hSw; (try simp only [List.getElem_toArray, List.getElem_cons_succ, List.getElem_cons_zero]); (try dsimp only at hSw); go_simp; (try (with_reducible rfl)))
  try simp only [Act.put, List.getElem_toArray, List.getElem_cons_succ, List.getElem_cons_zero, List.setIfInBounds_toArray, List.set_cons_zero, List.set_cons_succ]
  -- 4
  refine' wpAnyH_take (i := 4) (v := ?v4) rfl (by kernel_rfl) (by kernel_rfl) (by kernel_rfl) (fun _ _ _ h => h) (Or.inl ⟨by rfl, ?y4⟩) (by first | assumption | exact Ext.eq hE (by exact ⟨rfl, rfl, rfl, rfl⟩)) ?r4
  case y4 => (intro w hSw; (try simp only [List.getElem_toArray, List.getElem_cons_succ, List.getElem_cons_zero]); (try dsimp only at hSw); go_simp; (try (with_reducible rfl)))
  try simp only [Act.put, List.getElem_toArray, List.getElem_cons_succ, List.getElem_cons_zero, List.setIfInBounds_toArray, List.set_cons_zero, List.set_cons_succ]
  -- 6
  refine' wpAnyH_take (i := 6) (v := ?v6) rfl (by kernel_rfl) (by kernel_rfl) (by kernel_rfl) (fun _ _ _ h => h) (Or.inl ⟨by rfl, ?y6⟩) (by first | assumption | exact Ext.eq hE (by exact ⟨rfl, rfl, rfl, rfl⟩)) ?r6
  case y6 => (intro w hSw; (try simp only [List.getElem_toArray, List.getElem_cons_succ, List.getElem_cons_zero]); (try dsimp only at hSw); go_simp; (try (with_reducible rfl)))
  try simp only [Act.put, List.getElem_toArray, List.getElem_cons_succ, List.getElem_cons_zero, List.setIfInBounds_toArray, List.set_cons_zero, List.set_cons_succ]
  -- 7
  refine' wpAnyH_take (i := 7) (v := ?v7) rfl (by kernel_rfl) (by kernel_rfl) (by kernel_rfl) (fun _ _ _ h => h) (Or.inl ⟨by rfl, ?y7⟩) (by first | assumption | exact Ext.eq hE (by exact ⟨rfl, rfl, rfl, rfl⟩)) ?r7
  case y7 => (intro w hSw; (try simp only [List.getElem_toArray, List.getElem_cons_succ, List.getElem_cons_zero]); (try dsimp only at hSw); go_simp; (try (with_reducible rfl)))
  try simp only [Act.put, List.getElem_toArray, List.getElem_cons_succ, List.getElem_cons_zero, List.setIfInBounds_toArray, List.set_cons_zero, List.set_cons_succ]
  -- effect 5
  refine wpAnyH_all (rs := [5]) (by kernel_rfl) (by simp) ?_
  intro i0 hi0
  obtain rfl : i0 = 5 := by simpa using hi0
  clear hi0
  refine wpOp_do rfl (by rfl) (fun K hK => ?_)
  simp only [List.getElem_toArray, List.getElem_cons_succ, List.getElem_cons_zero]
  go_simp
  refine (Hw.out _).mono ?_
  rintro e9 w9 ⟨rfl, b9⟩
  have hE' := Ext.tr hE b9 (by exact ⟨rfl, rfl, rfl, rfl⟩)
  refine hK _ _ ⟨hE', ?_⟩
  clear hK K hE b9
  have hE := hE'
  clear hE'
  try simp only [Act.put, List.getElem_toArray, List.getElem_cons_succ, List.getElem_cons_zero, List.setIfInBounds_toArray, List.set_cons_zero, List.set_cons_succ]
  -- 8
  refine' wpAnyH_take (i := 8) (v := ?v8) rfl (by kernel_rfl) (by kernel_rfl) (by kernel_rfl) (fun _ _ _ h => h) (Or.inl ⟨by rfl, ?y8⟩) (by first | assumption | exact Ext.eq hE (by exact ⟨rfl, rfl, rfl, rfl⟩)) ?r8
  case y8 => (intro w hSw; (try simp only [List.getElem_toArray, List.getElem_cons_succ, List.getElem_cons_zero]); (try dsimp only at hSw); go_simp; (try (with_reducible rfl)))
  try simp only [Act.put, List.getElem_toArray, List.getElem_cons_succ, List.getElem_cons_zero, List.setIfInBounds_toArray, List.set_cons_zero, List.set_cons_succ]
  -- 9
  refine' wpAnyH_take (i := 9) (v := ?v9) rfl (by kernel_rfl) (by kernel_rfl) (by kernel_rfl) (fun _ _ _ h => h) (Or.inl ⟨by rfl, ?y9⟩) (by first | assumption | exact Ext.eq hE (by exact ⟨rfl, rfl, rfl, rfl⟩)) ?r9
  case y9 => (intro w hSw; (try simp only [List.getElem_toArray, List.getElem_cons_succ, List.getElem_cons_zero]); (try dsimp only at hSw); go_simp; (try (with_reducible rfl)))
  try simp only [Act.put, List.getElem_toArray, List.getElem_cons_succ, List.getElem_cons_zero, List.setIfInBounds_toArray, List.set_cons_zero, List.set_cons_succ]
  -- 10
  refine' wpAnyH_take (i := 10) (v := ?v10) rfl (by kernel_rfl) (by kernel_rfl) (by kernel_rfl) (fun _ _ _ h => h) (Or.inl ⟨by rfl, ?y10⟩) (by first | assumption | exact Ext.eq hE (by exact ⟨rfl, rfl, rfl, rfl⟩)) ?r10
  case y10 => (intro w hSw; (try simp only [List.getElem_toArray, List.getElem_cons_succ, List.getElem_cons_zero]); (try dsimp only at hSw); go_simp; (try (with_reducible rfl)))
  try simp only [Act.put, List.getElem_toArray, List.getElem_cons_succ, List.getElem_cons_zero, List.setIfInBounds_toArray, List.set_cons_zero, List.set_cons_succ]
  -- 11
  refine' wpAnyH_take (i := 11) (v := ?v11) rfl (by kernel_rfl) (by kernel_rfl) (by kernel_rfl) (fun _ _ _ h => h) (Or.inl ⟨by rfl, ?y11⟩) (by first | assumption | exact Ext.eq hE (by exact ⟨rfl, rfl, rfl, rfl⟩)) ?r11
  case y11 => (intro w hSw; (try simp only [List.getElem_toArray, List.getElem_cons_succ, List.getElem_cons_zero]); (try dsimp only at hSw); go_simp; (try (with_reducible rfl)))
  try simp only [Act.put, List.getElem_toArray, List.getElem_cons_succ, List.getElem_cons_zero, List.setIfInBounds_toArray, List.set_cons_zero, List.set_cons_succ]
  -- 12
  refine' wpAnyH_take (i := 12) (v := ?v12) rfl (by kernel_rfl) (by kernel_rfl) (by kernel_rfl) (fun _ _ _ h => h) (Or.inl ⟨by rfl, ?y12⟩) (by first | assumption | exact Ext.eq hE (by exact ⟨rfl, rfl, rfl, rfl⟩)) ?r12
  case y12 => (intro w hSw; (try simp only [List.getElem_toArray, List.getElem_cons_succ, List.getElem_cons_zero]); (try dsimp only at hSw); go_simp; (try (with_reducible rfl)))
  try simp only [Act.put, List.getElem_toArray, List.getElem_cons_succ, List.getElem_cons_zero, List.setIfInBounds_toArray, List.set_cons_zero, List.set_cons_succ]
  -- 13
  refine' wpAnyH_take (i := 13) (v := ?v13) rfl (by kernel_rfl) (by kernel_rfl) (by kernel_rfl) (fun _ _ _ h => h) (Or.inl ⟨by rfl, ?y13⟩) (by first | assumption | exact Ext.eq hE (by exact ⟨rfl, rfl, rfl, rfl⟩)) ?r13
  case y13 => (intro w hSw; (try simp only [List.getElem_toArray, List.getElem_cons_succ, List.getElem_cons_zero]); (try dsimp only at hSw); go_simp; (try (with_reducible rfl)))
  try simp only [Act.put, List.getElem_toArray, List.getElem_cons_succ, List.getElem_cons_zero, List.setIfInBounds_toArray, List.set_cons_zero, List.set_cons_succ]
  -- 14 passed over
  refine wpAnyH_take (i := 14) (v := undef) rfl (by kernel_rfl) (by kernel_rfl) (by kernel_rfl) (fun _ _ _ h => h) (Or.inr ⟨by rfl, rfl⟩) (by first | assumption | exact Ext.eq hE (by exact ⟨rfl, rfl, rfl, rfl⟩)) ?_
  try simp only [Act.put, List.getElem_toArray, List.getElem_cons_succ, List.getElem_cons_zero, List.setIfInBounds_toArray, List.set_cons_zero, List.set_cons_succ]
  -- 15 passed over
  refine wpAnyH_take (i := 15) (v := undef) rfl (by kernel_rfl) (by kernel_rfl) (by kernel_rfl) (fun _ _ _ h => h) (Or.inr ⟨by rfl, rfl⟩) (by first | assumption | exact Ext.eq hE (by exact ⟨rfl, rfl, rfl, rfl⟩)) ?_
  try simp only [Act.put, List.getElem_toArray, List.getElem_cons_succ, List.getElem_cons_zero, List.setIfInBounds_toArray, List.set_cons_zero, List.set_cons_succ]
  -- 16 passed over
  refine wpAnyH_take (i := 16) (v := undef) rfl (by kernel_rfl) (by kernel_rfl) (by kernel_rfl) (fun _ _ _ h => h) (Or.inr ⟨by rfl, rfl⟩) (by first | assumption | exact Ext.eq hE (by exact ⟨rfl, rfl, rfl, rfl⟩)) ?_
  try simp only [Act.put, List.getElem_toArray, List.getElem_cons_succ, List.getElem_cons_zero, List.setIfInBounds_toArray, List.set_cons_zero, List.set_cons_succ]
  -- 17
  refine' wpAnyH_take (i := 17) (v := ?v17) rfl (by kernel_rfl) (by kernel_rfl) (by kernel_rfl) (fun _ _ _ h => h) (Or.inl ⟨by rfl, ?y17⟩) (by first | assumption | exact Ext.eq hE (by exact ⟨rfl, rfl, rfl, rfl⟩)) ?r17
  case y17 => (intro w hSw; (try simp only [List.getElem_toArray, List.getElem_cons_succ, List.getElem_cons_zero]); (try dsimp only at hSw); go_simp; (try (with_reducible rfl)))
  try simp only [Act.put, List.getElem_toArray, List.getElem_cons_succ, List.getElem_cons_zero, List.setIfInBounds_toArray, List.set_cons_zero, List.set_cons_succ]
  -- 18
  refine' wpAnyH_take (i := 18) (v := ?v18) rfl (by kernel_rfl) (by kernel_rfl) (by kernel_rfl) (fun _ _ _ h => h) (Or.inl ⟨by rfl, ?y18⟩) (by first | assumption | exact Ext.eq hE (by exact ⟨rfl, rfl, rfl, rfl⟩)) ?r18
  case y18 => (intro w hSw; (try simp only [List.getElem_toArray, List.getElem_cons_succ, List.getElem_cons_zero]); (try dsimp only at hSw); go_simp; (try (with_reducible rfl)))
  try simp only [Act.put, List.getElem_toArray, List.getElem_cons_succ, List.getElem_cons_zero, List.setIfInBounds_toArray, List.set_cons_zero, List.set_cons_succ]
  -- 19
  refine' wpAnyH_take (i := 19) (v := ?v19) rfl (by kernel_rfl) (by kernel_rfl) (by kernel_rfl) (fun _ _ _ h => h) (Or.inl ⟨by rfl, ?y19⟩) (by first | assumption | exact Ext.eq hE (by exact ⟨rfl, rfl, rfl, rfl⟩)) ?r19
  case y19 => (intro w hSw; (try simp only [List.getElem_toArray, List.getElem_cons_succ, List.getElem_cons_zero]); (try dsimp only at hSw); go_simp; (try (with_reducible rfl)))
  try simp only [Act.put, List.getElem_toArray, List.getElem_cons_succ, List.getElem_cons_zero, List.setIfInBounds_toArray, List.set_cons_zero, List.set_cons_succ]
  refine wpAnyH_done (by kernel_rfl) ?_ _
  refine NoPanic.normal ?_
  go_wp2
  go_ret
  exact ⟨rfl, below_tr B1 (by first | exact hE | exact Ext.eq hE ⟨rfl, rfl, rfl, rfl⟩)⟩

set_option maxHeartbeats 4000000 in
theorem isaReads_111 (op d a b imm : Int) (w : World) (ha : 0 < a) (hb : 0 < b) (hr : rightB ⟨op, d, a, b, imm⟩ = true) (hf : form op = 1) (hl : readsL ⟨op, d, a, b, imm⟩ = [a, b]) :
    Calls Try.prog 9 #[.agg #[.int .i64 op, .int .i64 d, .int .i64 a, .int .i64 b, .int .i64 imm]] w fun e w' => e = .returned (.bool true) ∧ Below w.heap.size w w' := by
  have Hs := hid (fun w => reads_any ⟨op, d, a, b, imm⟩ w)
  have Hr := hid (fun w => refRight_any ⟨op, d, a, b, imm⟩ w)
  have Hw := hid (fun w => writes_any ⟨op, d, a, b, imm⟩ w)
  have Hf := hid (fun w => form_any op w)
  rw [hl] at Hs
  rw [writes_d ⟨op, d, a, b, imm⟩ hr] at Hw
  rw [hr] at Hr
  rw [hf] at Hf
  simp only [Ins.val] at Hs Hr Hw
  clear hr hf hl
  go_enter Try.func9, Try.ntmps9
  go_wp2_with fail
  refine (alive2_any _).mono ?_
  rintro e9 w1 ⟨rfl, b1⟩
  have x1 := (BoxI.new w op d a b imm 23).below b1
  have B1 := below_tr (below_al (Below.refl _ _) _) b1
  obtain ⟨kx0, kx1, kx2, kx3, kx4⟩ := x1.ext
  have hE : Ext w1 w1 := Ext.refl w1
  have hA : ∀ o, Ext w1 (w1.alloc o) := fun o => below_al hE o
  clear b1 x1
  go_wp2_with fail
  refine (Hs.out _).mono ?_
  rintro e9 w9 ⟨v9, rfl, o9, b9⟩
  obtain ⟨A9, c9, e9, r9, q9⟩ := own_rd o9
  subst e9
  have hE' := Ext.tr hE b9 (by exact ⟨rfl, rfl, rfl, rfl⟩)
  clear hE b9 hA o9
  have hE := hE'
  clear hE'
  go_wp2_with fail
  refine (Hr.out _).mono ?_
  rintro e9 w2 ⟨rfl, b9⟩
  replace r9 := r9.below b9
  have hE' := Ext.tr hE b9 (by exact ⟨rfl, rfl, rfl, rfl⟩)
  clear hE b9
  have hE := hE'
  clear hE'
  go_wp2_with fail
  refine (Hf.out _).mono ?_
  rintro e9 w9 ⟨rfl, rfl⟩
  have hA : ∀ o, Ext w1 (w2.alloc o) := fun o => below_al hE o
  go_wp2_with (at_builtin; refine wpl_append w2.heap.size rfl 33 3 (.int .i64 0) 1 8 Try.underlying33 (by kernel_rfl) rfl (by omega) (by omega) _ 0 [] (own_nil _ _ _ _) (some ⟨w2.heap.size, 0, none⟩) 1 1 [.int .i64 a] rfl (rd_new _ _ _) (by simp) (one_cell _) (by omega) (by simp) ?_)
  intro v3 w3 o3 g3 b3
  have k3 : Below w2.heap.size w2 w3 := (below_al (Below.refl _ _) _).grown g3 (by simp) (by intro k hk; simp [Value.ownBlock] at hk)
  have hE2 := hE
  have hE' := Ext.tr hE k3 (by exact ⟨rfl, rfl, rfl, rfl⟩)
  clear hE hA g3 b3
  have hA : ∀ o, Ext w1 (w3.alloc o) := fun o => below_al hE' o
  go_wp2_with (at_builtin; refine wpl_append w2.heap.size rfl 33 3 (.int .i64 0) 1 8 Try.underlying33 (by kernel_rfl) rfl (by omega) (by omega) _ 1 [.int .i64 a] (o3.alloc _) (some ⟨w3.heap.size, 0, none⟩) 1 1 [.int .i64 b] rfl (rd_new _ _ _) (by simp) (one_cell _) (by omega) (by have := k3.size; simp; omega) ?_)
  intro v4 w4 o4 g4 b4
  have k4 : Below w2.heap.size w2 w4 := (below_al k3 _).grown g4 (by have := k3.size; simp; omega) (own_base o3)
  have hE := Ext.tr hE2 k4 (by exact ⟨rfl, rfl, rfl, rfl⟩)
  replace r9 := r9.below k4
  clear hA hE' hE2 g4 b4 k3 k4 o3
  obtain ⟨A3, c3, e3, r3, q3⟩ := own_rd o4
  subst e3
  clear o4
  go_wp2_with fail
  have hS : ∀ W, Eqw W w4 → Calls Try.prog 19 #[.slice A9 2 c9, .slice A3 2 c3] W fun e w' => e = .returned (.bool true) ∧ Drw W w' := fun W hW => same_eq [a, b] 2 rfl A9 A3 c9 c3 W (by omega) (r9.eqw hW) (r3.eqw hW)
  have HS := hid hS
  clear hS r9 r3
  refine wp_region_held_np (S := fun W => Ext w1 W) 20 rfl (by kernel_rfl) ?_
  -- 0
  refine' wpAnyH_take (i := 0) (v := ?v0) rfl (by kernel_rfl) (by kernel_rfl) (by kernel_rfl) (fun _ _ _ h => h) (Or.inl ⟨by rfl, ?y0⟩) (by first | assumption | exact Ext.eq hE (by exact ⟨rfl, rfl, rfl, rfl⟩)) ?r0
  case y0 => (intro w hSw; (try simp only [List.getElem_toArray, List.getElem_cons_succ, List.getElem_cons_zero]); (try dsimp only at hSw); go_simp; (try (with_reducible rfl)))
  try simp only [Act.put, List.getElem_toArray, List.getElem_cons_succ, List.getElem_cons_zero, List.setIfInBounds_toArray, List.set_cons_zero, List.set_cons_succ]
  -- 1
  refine' wpAnyH_take (i := 1) (v := ?v1) rfl (by kernel_rfl) (by kernel_rfl) (by kernel_rfl) (fun _ _ _ h => h) (Or.inl ⟨by rfl, ?y1⟩) (by first | assumption | exact Ext.eq hE (by exact ⟨rfl, rfl, rfl, rfl⟩)) ?r1
  case y1 => (intro w hSw; (try simp only [List.getElem_toArray, List.getElem_cons_succ, List.getElem_cons_zero]); (try dsimp only at hSw); go_simp; (try (with_reducible rfl)))
  try simp only [Act.put, List.getElem_toArray, List.getElem_cons_succ, List.getElem_cons_zero, List.setIfInBounds_toArray, List.set_cons_zero, List.set_cons_succ]
  -- effect 2
  refine wpAnyH_all (rs := [2]) (by kernel_rfl) (by simp) ?_
  intro i0 hi0
  obtain rfl : i0 = 2 := by simpa using hi0
  clear hi0
  refine wpOp_do rfl (by rfl) (fun K hK => ?_)
  simp only [List.getElem_toArray, List.getElem_cons_succ, List.getElem_cons_zero]
  go_simp
  refine (HS.out _ (by exact ⟨rfl, rfl, rfl, rfl⟩)).mono ?_
  rintro e9 w9 ⟨rfl, n9, rfl⟩
  refine hK _ _ ⟨Ext.eq hE (by exact ⟨rfl, rfl, rfl, rfl⟩), ?_⟩
  clear hK K
  try simp only [Act.put, List.getElem_toArray, List.getElem_cons_succ, List.getElem_cons_zero, List.setIfInBounds_toArray, List.set_cons_zero, List.set_cons_succ]
  -- 3
  refine' wpAnyH_take (i := 3) (v := ?v3) rfl (by kernel_rfl) (by kernel_rfl) (by kernel_rfl) (fun _ _ _ h => h) (Or.inl ⟨by rfl, ?y3⟩) (by first | assumption | exact Ext.eq hE (by exact ⟨rfl, rfl, rfl, rfl⟩)) ?r3
  case y3 => (intro w hSw; (try simp only [List.getElem_toArray, List.getElem_cons_succ, List.getElem_cons_zero]); (try dsimp only at hSw); go_simp; (try (with_reducible rfl)))
  try simp only [Act.put, List.getElem_toArray, List.getElem_cons_succ, List.getElem_cons_zero, List.setIfInBounds_toArray, List.set_cons_zero, List.set_cons_succ]
  -- 4
  refine' wpAnyH_take (i := 4) (v := ?v4) rfl (by kernel_rfl) (by kernel_rfl) (by kernel_rfl) (fun _ _ _ h => h) (Or.inl ⟨by rfl, ?y4⟩) (by first | assumption | exact Ext.eq hE (by exact ⟨rfl, rfl, rfl, rfl⟩)) ?r4
  case y4 => (intro w hSw; (try simp only [List.getElem_toArray, List.getElem_cons_succ, List.getElem_cons_zero]); (try dsimp only at hSw); go_simp; (try (with_reducible rfl)))
  try simp only [Act.put, List.getElem_toArray, List.getElem_cons_succ, List.getElem_cons_zero, List.setIfInBounds_toArray, List.set_cons_zero, List.set_cons_succ]
  -- 6
  refine' wpAnyH_take (i := 6) (v := ?v6) rfl (by kernel_rfl) (by kernel_rfl) (by kernel_rfl) (fun _ _ _ h => h) (Or.inl ⟨by rfl, ?y6⟩) (by first | assumption | exact Ext.eq hE (by exact ⟨rfl, rfl, rfl, rfl⟩)) ?r6
  case y6 => (intro w hSw; (try simp only [List.getElem_toArray, List.getElem_cons_succ, List.getElem_cons_zero]); (try dsimp only at hSw); go_simp; (try (with_reducible rfl)))
  try simp only [Act.put, List.getElem_toArray, List.getElem_cons_succ, List.getElem_cons_zero, List.setIfInBounds_toArray, List.set_cons_zero, List.set_cons_succ]
  -- 7
  refine' wpAnyH_take (i := 7) (v := ?v7) rfl (by kernel_rfl) (by kernel_rfl) (by kernel_rfl) (fun _ _ _ h => h) (Or.inl ⟨by rfl, ?y7⟩) (by first | assumption | exact Ext.eq hE (by exact ⟨rfl, rfl, rfl, rfl⟩)) ?r7
  case y7 => (intro w hSw; (try simp only [List.getElem_toArray, List.getElem_cons_succ, List.getElem_cons_zero]); (try dsimp only at hSw); go_simp; (try (with_reducible rfl)))
  try simp only [Act.put, List.getElem_toArray, List.getElem_cons_succ, List.getElem_cons_zero, List.setIfInBounds_toArray, List.set_cons_zero, List.set_cons_succ]
  -- effect 5
  refine wpAnyH_all (rs := [5]) (by kernel_rfl) (by simp) ?_
  intro i0 hi0
  obtain rfl : i0 = 5 := by simpa using hi0
  clear hi0
  refine wpOp_do rfl (by rfl) (fun K hK => ?_)
  simp only [List.getElem_toArray, List.getElem_cons_succ, List.getElem_cons_zero]
  go_simp
  refine (Hw.out _).mono ?_
  rintro e9 w9 ⟨rfl, b9⟩
  have hE' := Ext.tr hE b9 (by exact ⟨rfl, rfl, rfl, rfl⟩)
  refine hK _ _ ⟨hE', ?_⟩
  clear hK K hE b9
  have hE := hE'
  clear hE'
  try simp only [Act.put, List.getElem_toArray, List.getElem_cons_succ, List.getElem_cons_zero, List.setIfInBounds_toArray, List.set_cons_zero, List.set_cons_succ]
  -- 8
  refine' wpAnyH_take (i := 8) (v := ?v8) rfl (by kernel_rfl) (by kernel_rfl) (by kernel_rfl) (fun _ _ _ h => h) (Or.inl ⟨by rfl, ?y8⟩) (by first | assumption | exact Ext.eq hE (by exact ⟨rfl, rfl, rfl, rfl⟩)) ?r8
  case y8 => (intro w hSw; (try simp only [List.getElem_toArray, List.getElem_cons_succ, List.getElem_cons_zero]); (try dsimp only at hSw); go_simp; (try (with_reducible rfl)))
  try simp only [Act.put, List.getElem_toArray, List.getElem_cons_succ, List.getElem_cons_zero, List.setIfInBounds_toArray, List.set_cons_zero, List.set_cons_succ]
  -- 9
  refine' wpAnyH_take (i := 9) (v := ?v9) rfl (by kernel_rfl) (by kernel_rfl) (by kernel_rfl) (fun _ _ _ h => h) (Or.inl ⟨by rfl, ?y9⟩) (by first | assumption | exact Ext.eq hE (by exact ⟨rfl, rfl, rfl, rfl⟩)) ?r9
  case y9 => (intro w hSw; (try simp only [List.getElem_toArray, List.getElem_cons_succ, List.getElem_cons_zero]); (try dsimp only at hSw); go_simp; (try (with_reducible rfl)))
  try simp only [Act.put, List.getElem_toArray, List.getElem_cons_succ, List.getElem_cons_zero, List.setIfInBounds_toArray, List.set_cons_zero, List.set_cons_succ]
  -- 10
  refine' wpAnyH_take (i := 10) (v := ?v10) rfl (by kernel_rfl) (by kernel_rfl) (by kernel_rfl) (fun _ _ _ h => h) (Or.inl ⟨by rfl, ?y10⟩) (by first | assumption | exact Ext.eq hE (by exact ⟨rfl, rfl, rfl, rfl⟩)) ?r10
  case y10 => (intro w hSw; (try simp only [List.getElem_toArray, List.getElem_cons_succ, List.getElem_cons_zero]); (try dsimp only at hSw); go_simp; (try (with_reducible rfl)))
  try simp only [Act.put, List.getElem_toArray, List.getElem_cons_succ, List.getElem_cons_zero, List.setIfInBounds_toArray, List.set_cons_zero, List.set_cons_succ]
  -- 11
  refine' wpAnyH_take (i := 11) (v := ?v11) rfl (by kernel_rfl) (by kernel_rfl) (by kernel_rfl) (fun _ _ _ h => h) (Or.inl ⟨by rfl, ?y11⟩) (by first | assumption | exact Ext.eq hE (by exact ⟨rfl, rfl, rfl, rfl⟩)) ?r11
  case y11 => (intro w hSw; (try simp only [List.getElem_toArray, List.getElem_cons_succ, List.getElem_cons_zero]); (try dsimp only at hSw); go_simp; (try (with_reducible rfl)))
  try simp only [Act.put, List.getElem_toArray, List.getElem_cons_succ, List.getElem_cons_zero, List.setIfInBounds_toArray, List.set_cons_zero, List.set_cons_succ]
  -- 12
  refine' wpAnyH_take (i := 12) (v := ?v12) rfl (by kernel_rfl) (by kernel_rfl) (by kernel_rfl) (fun _ _ _ h => h) (Or.inl ⟨by rfl, ?y12⟩) (by first | assumption | exact Ext.eq hE (by exact ⟨rfl, rfl, rfl, rfl⟩)) ?r12
  case y12 => (intro w hSw; (try simp only [List.getElem_toArray, List.getElem_cons_succ, List.getElem_cons_zero]); (try dsimp only at hSw); go_simp; (try (with_reducible rfl)))
  try simp only [Act.put, List.getElem_toArray, List.getElem_cons_succ, List.getElem_cons_zero, List.setIfInBounds_toArray, List.set_cons_zero, List.set_cons_succ]
  -- 13
  refine' wpAnyH_take (i := 13) (v := ?v13) rfl (by kernel_rfl) (by kernel_rfl) (by kernel_rfl) (fun _ _ _ h => h) (Or.inl ⟨by rfl, ?y13⟩) (by first | assumption | exact Ext.eq hE (by exact ⟨rfl, rfl, rfl, rfl⟩)) ?r13
  case y13 => (intro w hSw; (try simp only [List.getElem_toArray, List.getElem_cons_succ, List.getElem_cons_zero]); (try dsimp only at hSw); go_simp; (try (with_reducible rfl)))
  try simp only [Act.put, List.getElem_toArray, List.getElem_cons_succ, List.getElem_cons_zero, List.setIfInBounds_toArray, List.set_cons_zero, List.set_cons_succ]
  -- 14 passed over
  refine wpAnyH_take (i := 14) (v := undef) rfl (by kernel_rfl) (by kernel_rfl) (by kernel_rfl) (fun _ _ _ h => h) (Or.inr ⟨by rfl, rfl⟩) (by first | assumption | exact Ext.eq hE (by exact ⟨rfl, rfl, rfl, rfl⟩)) ?_
  try simp only [Act.put, List.getElem_toArray, List.getElem_cons_succ, List.getElem_cons_zero, List.setIfInBounds_toArray, List.set_cons_zero, List.set_cons_succ]
  -- 15 passed over
  refine wpAnyH_take (i := 15) (v := undef) rfl (by kernel_rfl) (by kernel_rfl) (by kernel_rfl) (fun _ _ _ h => h) (Or.inr ⟨by rfl, rfl⟩) (by first | assumption | exact Ext.eq hE (by exact ⟨rfl, rfl, rfl, rfl⟩)) ?_
  try simp only [Act.put, List.getElem_toArray, List.getElem_cons_succ, List.getElem_cons_zero, List.setIfInBounds_toArray, List.set_cons_zero, List.set_cons_succ]
  -- 16 passed over
  refine wpAnyH_take (i := 16) (v := undef) rfl (by kernel_rfl) (by kernel_rfl) (by kernel_rfl) (fun _ _ _ h => h) (Or.inr ⟨by rfl, rfl⟩) (by first | assumption | exact Ext.eq hE (by exact ⟨rfl, rfl, rfl, rfl⟩)) ?_
  try simp only [Act.put, List.getElem_toArray, List.getElem_cons_succ, List.getElem_cons_zero, List.setIfInBounds_toArray, List.set_cons_zero, List.set_cons_succ]
  -- 17
  refine' wpAnyH_take (i := 17) (v := ?v17) rfl (by kernel_rfl) (by kernel_rfl) (by kernel_rfl) (fun _ _ _ h => h) (Or.inl ⟨by rfl, ?y17⟩) (by first | assumption | exact Ext.eq hE (by exact ⟨rfl, rfl, rfl, rfl⟩)) ?r17
  case y17 => (intro w hSw; (try simp only [List.getElem_toArray, List.getElem_cons_succ, List.getElem_cons_zero]); (try dsimp only at hSw); go_simp; (try (with_reducible rfl)))
  try simp only [Act.put, List.getElem_toArray, List.getElem_cons_succ, List.getElem_cons_zero, List.setIfInBounds_toArray, List.set_cons_zero, List.set_cons_succ]
  -- 18
  refine' wpAnyH_take (i := 18) (v := ?v18) rfl (by kernel_rfl) (by kernel_rfl) (by kernel_rfl) (fun _ _ _ h => h) (Or.inl ⟨by rfl, ?y18⟩) (by first | assumption | exact Ext.eq hE (by exact ⟨rfl, rfl, rfl, rfl⟩)) ?r18
  case y18 => (intro w hSw; (try simp only [List.getElem_toArray, List.getElem_cons_succ, List.getElem_cons_zero]); (try dsimp only at hSw); go_simp; (try (with_reducible rfl)))
  try simp only [Act.put, List.getElem_toArray, List.getElem_cons_succ, List.getElem_cons_zero, List.setIfInBounds_toArray, List.set_cons_zero, List.set_cons_succ]
  -- 19
  refine' wpAnyH_take (i := 19) (v := ?v19) rfl (by kernel_rfl) (by kernel_rfl) (by kernel_rfl) (fun _ _ _ h => h) (Or.inl ⟨by rfl, ?y19⟩) (by first | assumption | exact Ext.eq hE (by exact ⟨rfl, rfl, rfl, rfl⟩)) ?r19
  case y19 => (intro w hSw; (try simp only [List.getElem_toArray, List.getElem_cons_succ, List.getElem_cons_zero]); (try dsimp only at hSw); go_simp; (try (with_reducible rfl)))
  try simp only [Act.put, List.getElem_toArray, List.getElem_cons_succ, List.getElem_cons_zero, List.setIfInBounds_toArray, List.set_cons_zero, List.set_cons_succ]
  refine wpAnyH_done (by kernel_rfl) ?_ _
  refine NoPanic.normal ?_
  go_wp2
  go_ret
  exact ⟨rfl, below_tr B1 (by first | exact hE | exact Ext.eq hE ⟨rfl, rfl, rfl, rfl⟩)⟩

set_option maxHeartbeats 4000000 in
theorem isaReads_200 (op d imm : Int) (w : World) (hr : rightB ⟨op, d, 0, 0, imm⟩ = true) (hf : form op = 2) (hl : readsL ⟨op, d, 0, 0, imm⟩ = []) :
    Calls Try.prog 9 #[.agg #[.int .i64 op, .int .i64 d, .int .i64 0, .int .i64 0, .int .i64 imm]] w fun e w' => e = .returned (.bool true) ∧ Below w.heap.size w w' := by
  have Hs := hid (fun w => reads_any ⟨op, d, 0, 0, imm⟩ w)
  have Hr := hid (fun w => refRight_any ⟨op, d, 0, 0, imm⟩ w)
  have Hw := hid (fun w => writes_any ⟨op, d, 0, 0, imm⟩ w)
  have Hf := hid (fun w => form_any op w)
  rw [hl] at Hs
  rw [writes_d ⟨op, d, 0, 0, imm⟩ hr] at Hw
  rw [hr] at Hr
  rw [hf] at Hf
  simp only [Ins.val] at Hs Hr Hw
  clear hr hf hl
  go_enter Try.func9, Try.ntmps9
  go_wp2_with fail
  refine (alive2_any _).mono ?_
  rintro e9 w1 ⟨rfl, b1⟩
  have x1 := (BoxI.new w op d 0 0 imm 23).below b1
  have B1 := below_tr (below_al (Below.refl _ _) _) b1
  obtain ⟨kx0, kx1, kx2, kx3, kx4⟩ := x1.ext
  have hE : Ext w1 w1 := Ext.refl w1
  have hA : ∀ o, Ext w1 (w1.alloc o) := fun o => below_al hE o
  clear b1 x1
  go_wp2_with fail
  refine (Hs.out _).mono ?_
  rintro e9 w9 ⟨v9, rfl, o9, b9⟩
  obtain ⟨A9, c9, e9, r9, q9⟩ := own_rd o9
  subst e9
  have hE' := Ext.tr hE b9 (by exact ⟨rfl, rfl, rfl, rfl⟩)
  clear hE b9 hA o9
  have hE := hE'
  clear hE'
  go_wp2_with fail
  refine (Hr.out _).mono ?_
  rintro e9 w2 ⟨rfl, b9⟩
  replace r9 := r9.below b9
  have hE' := Ext.tr hE b9 (by exact ⟨rfl, rfl, rfl, rfl⟩)
  clear hE b9
  have hE := hE'
  clear hE'
  go_wp2_with fail
  refine (Hf.out _).mono ?_
  rintro e9 w9 ⟨rfl, rfl⟩
  have hA : ∀ o, Ext w1 (w2.alloc o) := fun o => below_al hE o
  clear hA
  go_wp2_with fail
  have hS : ∀ W, Eqw W w2 → Calls Try.prog 19 #[.slice A9 0 c9, .slice none 0 0] W fun e w' => e = .returned (.bool true) ∧ Drw W w' := fun W hW => same_eq [] 0 rfl A9 none c9 0 W (by omega) (r9.eqw hW) (Rd.nil _ _)
  have HS := hid hS
  clear hS r9
  refine wp_region_held_np (S := fun W => Ext w1 W) 20 rfl (by kernel_rfl) ?_
  -- 0
  refine' wpAnyH_take (i := 0) (v := ?v0) rfl (by kernel_rfl) (by kernel_rfl) (by kernel_rfl) (fun _ _ _ h => h) (Or.inl ⟨by rfl, ?y0⟩) (by first | assumption | exact Ext.eq hE (by exact ⟨rfl, rfl, rfl, rfl⟩)) ?r0
  case y0 => (intro w hSw; (try simp only [List.getElem_toArray, List.getElem_cons_succ, List.getElem_cons_zero]); (try dsimp only at hSw); go_simp; (try (with_reducible rfl)))
  try simp only [Act.put, List.getElem_toArray, List.getElem_cons_succ, List.getElem_cons_zero, List.setIfInBounds_toArray, List.set_cons_zero, List.set_cons_succ]
  -- 1
  refine' wpAnyH_take (i := 1) (v := ?v1) rfl (by kernel_rfl) (by kernel_rfl) (by kernel_rfl) (fun _ _ _ h => h) (Or.inl ⟨by rfl, ?y1⟩) (by first | assumption | exact Ext.eq hE (by exact ⟨rfl, rfl, rfl, rfl⟩)) ?r1
  case y1 => (intro w hSw; (try simp only [List.getElem_toArray, List.getElem_cons_succ, List.getElem_cons_zero]); (try dsimp only at hSw); go_simp; (try (with_reducible rfl)))
  try simp only [Act.put, List.getElem_toArray, List.getElem_cons_succ, List.getElem_cons_zero, List.setIfInBounds_toArray, List.set_cons_zero, List.set_cons_succ]
  -- effect 2
  refine wpAnyH_all (rs := [2]) (by kernel_rfl) (by simp) ?_
  intro i0 hi0
  obtain rfl : i0 = 2 := by simpa using hi0
  clear hi0
  refine wpOp_do rfl (by rfl) (fun K hK => ?_)
  simp only [List.getElem_toArray, List.getElem_cons_succ, List.getElem_cons_zero]
  go_simp
  refine (HS.out _ (by exact ⟨rfl, rfl, rfl, rfl⟩)).mono ?_
  rintro e9 w9 ⟨rfl, n9, rfl⟩
  refine hK _ _ ⟨Ext.eq hE (by exact ⟨rfl, rfl, rfl, rfl⟩), ?_⟩
  clear hK K
  try simp only [Act.put, List.getElem_toArray, List.getElem_cons_succ, List.getElem_cons_zero, List.setIfInBounds_toArray, List.set_cons_zero, List.set_cons_succ]
  -- 3
  refine' wpAnyH_take (i := 3) (v := ?v3) rfl (by kernel_rfl) (by kernel_rfl) (by kernel_rfl) (fun _ _ _ h => h) (Or.inl ⟨by rfl, ?y3⟩) (by first | assumption | exact Ext.eq hE (by exact ⟨rfl, rfl, rfl, rfl⟩)) ?r3
  case y3 => (intro w hSw; (try simp only [List.getElem_toArray, List.getElem_cons_succ, List.getElem_cons_zero]); (try dsimp only at hSw); go_simp; (try (with_reducible rfl)))
  try simp only [Act.put, List.getElem_toArray, List.getElem_cons_succ, List.getElem_cons_zero, List.setIfInBounds_toArray, List.set_cons_zero, List.set_cons_succ]
  -- 4
  refine' wpAnyH_take (i := 4) (v := ?v4) rfl (by kernel_rfl) (by kernel_rfl) (by kernel_rfl) (fun _ _ _ h => h) (Or.inl ⟨by rfl, ?y4⟩) (by first | assumption | exact Ext.eq hE (by exact ⟨rfl, rfl, rfl, rfl⟩)) ?r4
  case y4 => (intro w hSw; (try simp only [List.getElem_toArray, List.getElem_cons_succ, List.getElem_cons_zero]); (try dsimp only at hSw); go_simp; (try (with_reducible rfl)))
  try simp only [Act.put, List.getElem_toArray, List.getElem_cons_succ, List.getElem_cons_zero, List.setIfInBounds_toArray, List.set_cons_zero, List.set_cons_succ]
  -- 6
  refine' wpAnyH_take (i := 6) (v := ?v6) rfl (by kernel_rfl) (by kernel_rfl) (by kernel_rfl) (fun _ _ _ h => h) (Or.inl ⟨by rfl, ?y6⟩) (by first | assumption | exact Ext.eq hE (by exact ⟨rfl, rfl, rfl, rfl⟩)) ?r6
  case y6 => (intro w hSw; (try simp only [List.getElem_toArray, List.getElem_cons_succ, List.getElem_cons_zero]); (try dsimp only at hSw); go_simp; (try (with_reducible rfl)))
  try simp only [Act.put, List.getElem_toArray, List.getElem_cons_succ, List.getElem_cons_zero, List.setIfInBounds_toArray, List.set_cons_zero, List.set_cons_succ]
  -- 7
  refine' wpAnyH_take (i := 7) (v := ?v7) rfl (by kernel_rfl) (by kernel_rfl) (by kernel_rfl) (fun _ _ _ h => h) (Or.inl ⟨by rfl, ?y7⟩) (by first | assumption | exact Ext.eq hE (by exact ⟨rfl, rfl, rfl, rfl⟩)) ?r7
  case y7 => (intro w hSw; (try simp only [List.getElem_toArray, List.getElem_cons_succ, List.getElem_cons_zero]); (try dsimp only at hSw); go_simp; (try (with_reducible rfl)))
  try simp only [Act.put, List.getElem_toArray, List.getElem_cons_succ, List.getElem_cons_zero, List.setIfInBounds_toArray, List.set_cons_zero, List.set_cons_succ]
  -- effect 5
  refine wpAnyH_all (rs := [5]) (by kernel_rfl) (by simp) ?_
  intro i0 hi0
  obtain rfl : i0 = 5 := by simpa using hi0
  clear hi0
  refine wpOp_do rfl (by rfl) (fun K hK => ?_)
  simp only [List.getElem_toArray, List.getElem_cons_succ, List.getElem_cons_zero]
  go_simp
  refine (Hw.out _).mono ?_
  rintro e9 w9 ⟨rfl, b9⟩
  have hE' := Ext.tr hE b9 (by exact ⟨rfl, rfl, rfl, rfl⟩)
  refine hK _ _ ⟨hE', ?_⟩
  clear hK K hE b9
  have hE := hE'
  clear hE'
  try simp only [Act.put, List.getElem_toArray, List.getElem_cons_succ, List.getElem_cons_zero, List.setIfInBounds_toArray, List.set_cons_zero, List.set_cons_succ]
  -- 8
  refine' wpAnyH_take (i := 8) (v := ?v8) rfl (by kernel_rfl) (by kernel_rfl) (by kernel_rfl) (fun _ _ _ h => h) (Or.inl ⟨by rfl, ?y8⟩) (by first | assumption | exact Ext.eq hE (by exact ⟨rfl, rfl, rfl, rfl⟩)) ?r8
  case y8 => (intro w hSw; (try simp only [List.getElem_toArray, List.getElem_cons_succ, List.getElem_cons_zero]); (try dsimp only at hSw); go_simp; (try (with_reducible rfl)))
  try simp only [Act.put, List.getElem_toArray, List.getElem_cons_succ, List.getElem_cons_zero, List.setIfInBounds_toArray, List.set_cons_zero, List.set_cons_succ]
  -- 9
  refine' wpAnyH_take (i := 9) (v := ?v9) rfl (by kernel_rfl) (by kernel_rfl) (by kernel_rfl) (fun _ _ _ h => h) (Or.inl ⟨by rfl, ?y9⟩) (by first | assumption | exact Ext.eq hE (by exact ⟨rfl, rfl, rfl, rfl⟩)) ?r9
  case y9 => (intro w hSw; (try simp only [List.getElem_toArray, List.getElem_cons_succ, List.getElem_cons_zero]); (try dsimp only at hSw); go_simp; (try (with_reducible rfl)))
  try simp only [Act.put, List.getElem_toArray, List.getElem_cons_succ, List.getElem_cons_zero, List.setIfInBounds_toArray, List.set_cons_zero, List.set_cons_succ]
  -- 10
  refine' wpAnyH_take (i := 10) (v := ?v10) rfl (by kernel_rfl) (by kernel_rfl) (by kernel_rfl) (fun _ _ _ h => h) (Or.inl ⟨by rfl, ?y10⟩) (by first | assumption | exact Ext.eq hE (by exact ⟨rfl, rfl, rfl, rfl⟩)) ?r10
  case y10 => (intro w hSw; (try simp only [List.getElem_toArray, List.getElem_cons_succ, List.getElem_cons_zero]); (try dsimp only at hSw); go_simp; (try (with_reducible rfl)))
  try simp only [Act.put, List.getElem_toArray, List.getElem_cons_succ, List.getElem_cons_zero, List.setIfInBounds_toArray, List.set_cons_zero, List.set_cons_succ]
  -- 11
  refine' wpAnyH_take (i := 11) (v := ?v11) rfl (by kernel_rfl) (by kernel_rfl) (by kernel_rfl) (fun _ _ _ h => h) (Or.inl ⟨by rfl, ?y11⟩) (by first | assumption | exact Ext.eq hE (by exact ⟨rfl, rfl, rfl, rfl⟩)) ?r11
  case y11 => (intro w hSw; (try simp only [List.getElem_toArray, List.getElem_cons_succ, List.getElem_cons_zero]); (try dsimp only at hSw); go_simp; (try (with_reducible rfl)))
  try simp only [Act.put, List.getElem_toArray, List.getElem_cons_succ, List.getElem_cons_zero, List.setIfInBounds_toArray, List.set_cons_zero, List.set_cons_succ]
  -- 12
  refine' wpAnyH_take (i := 12) (v := ?v12) rfl (by kernel_rfl) (by kernel_rfl) (by kernel_rfl) (fun _ _ _ h => h) (Or.inl ⟨by rfl, ?y12⟩) (by first | assumption | exact Ext.eq hE (by exact ⟨rfl, rfl, rfl, rfl⟩)) ?r12
  case y12 => (intro w hSw; (try simp only [List.getElem_toArray, List.getElem_cons_succ, List.getElem_cons_zero]); (try dsimp only at hSw); go_simp; (try (with_reducible rfl)))
  try simp only [Act.put, List.getElem_toArray, List.getElem_cons_succ, List.getElem_cons_zero, List.setIfInBounds_toArray, List.set_cons_zero, List.set_cons_succ]
  -- 13
  refine' wpAnyH_take (i := 13) (v := ?v13) rfl (by kernel_rfl) (by kernel_rfl) (by kernel_rfl) (fun _ _ _ h => h) (Or.inl ⟨by rfl, ?y13⟩) (by first | assumption | exact Ext.eq hE (by exact ⟨rfl, rfl, rfl, rfl⟩)) ?r13
  case y13 => (intro w hSw; (try simp only [List.getElem_toArray, List.getElem_cons_succ, List.getElem_cons_zero]); (try dsimp only at hSw); go_simp; (try (with_reducible rfl)))
  try simp only [Act.put, List.getElem_toArray, List.getElem_cons_succ, List.getElem_cons_zero, List.setIfInBounds_toArray, List.set_cons_zero, List.set_cons_succ]
  -- 14 passed over
  refine wpAnyH_take (i := 14) (v := undef) rfl (by kernel_rfl) (by kernel_rfl) (by kernel_rfl) (fun _ _ _ h => h) (Or.inr ⟨by rfl, rfl⟩) (by first | assumption | exact Ext.eq hE (by exact ⟨rfl, rfl, rfl, rfl⟩)) ?_
  try simp only [Act.put, List.getElem_toArray, List.getElem_cons_succ, List.getElem_cons_zero, List.setIfInBounds_toArray, List.set_cons_zero, List.set_cons_succ]
  -- 15 passed over
  refine wpAnyH_take (i := 15) (v := undef) rfl (by kernel_rfl) (by kernel_rfl) (by kernel_rfl) (fun _ _ _ h => h) (Or.inr ⟨by rfl, rfl⟩) (by first | assumption | exact Ext.eq hE (by exact ⟨rfl, rfl, rfl, rfl⟩)) ?_
  try simp only [Act.put, List.getElem_toArray, List.getElem_cons_succ, List.getElem_cons_zero, List.setIfInBounds_toArray, List.set_cons_zero, List.set_cons_succ]
  -- 16 passed over
  refine wpAnyH_take (i := 16) (v := undef) rfl (by kernel_rfl) (by kernel_rfl) (by kernel_rfl) (fun _ _ _ h => h) (Or.inr ⟨by rfl, rfl⟩) (by first | assumption | exact Ext.eq hE (by exact ⟨rfl, rfl, rfl, rfl⟩)) ?_
  try simp only [Act.put, List.getElem_toArray, List.getElem_cons_succ, List.getElem_cons_zero, List.setIfInBounds_toArray, List.set_cons_zero, List.set_cons_succ]
  -- 17
  refine' wpAnyH_take (i := 17) (v := ?v17) rfl (by kernel_rfl) (by kernel_rfl) (by kernel_rfl) (fun _ _ _ h => h) (Or.inl ⟨by rfl, ?y17⟩) (by first | assumption | exact Ext.eq hE (by exact ⟨rfl, rfl, rfl, rfl⟩)) ?r17
  case y17 => (intro w hSw; (try simp only [List.getElem_toArray, List.getElem_cons_succ, List.getElem_cons_zero]); (try dsimp only at hSw); go_simp; (try (with_reducible rfl)))
  try simp only [Act.put, List.getElem_toArray, List.getElem_cons_succ, List.getElem_cons_zero, List.setIfInBounds_toArray, List.set_cons_zero, List.set_cons_succ]
  -- 18
  refine' wpAnyH_take (i := 18) (v := ?v18) rfl (by kernel_rfl) (by kernel_rfl) (by kernel_rfl) (fun _ _ _ h => h) (Or.inl ⟨by rfl, ?y18⟩) (by first | assumption | exact Ext.eq hE (by exact ⟨rfl, rfl, rfl, rfl⟩)) ?r18
  case y18 => (intro w hSw; (try simp only [List.getElem_toArray, List.getElem_cons_succ, List.getElem_cons_zero]); (try dsimp only at hSw); go_simp; (try (with_reducible rfl)))
  try simp only [Act.put, List.getElem_toArray, List.getElem_cons_succ, List.getElem_cons_zero, List.setIfInBounds_toArray, List.set_cons_zero, List.set_cons_succ]
  -- 19
  refine' wpAnyH_take (i := 19) (v := ?v19) rfl (by kernel_rfl) (by kernel_rfl) (by kernel_rfl) (fun _ _ _ h => h) (Or.inl ⟨by rfl, ?y19⟩) (by first | assumption | exact Ext.eq hE (by exact ⟨rfl, rfl, rfl, rfl⟩)) ?r19
  case y19 => (intro w hSw; (try simp only [List.getElem_toArray, List.getElem_cons_succ, List.getElem_cons_zero]); (try dsimp only at hSw); go_simp; (try (with_reducible rfl)))
  try simp only [Act.put, List.getElem_toArray, List.getElem_cons_succ, List.getElem_cons_zero, List.setIfInBounds_toArray, List.set_cons_zero, List.set_cons_succ]
  refine wpAnyH_done (by kernel_rfl) ?_ _
  refine NoPanic.normal ?_
  go_wp2
  go_ret
  exact ⟨rfl, below_tr B1 (by first | exact hE | exact Ext.eq hE ⟨rfl, rfl, rfl, rfl⟩)⟩

set_option maxHeartbeats 4000000 in
theorem isaReads_210 (op d a imm : Int) (w : World) (ha : 0 < a) (hr : rightB ⟨op, d, a, 0, imm⟩ = true) (hf : form op = 2) (hl : readsL ⟨op, d, a, 0, imm⟩ = [a]) :
    Calls Try.prog 9 #[.agg #[.int .i64 op, .int .i64 d, .int .i64 a, .int .i64 0, .int .i64 imm]] w fun e w' => e = .returned (.bool true) ∧ Below w.heap.size w w' := by
  have Hs := hid (fun w => reads_any ⟨op, d, a, 0, imm⟩ w)
  have Hr := hid (fun w => refRight_any ⟨op, d, a, 0, imm⟩ w)
  have Hw := hid (fun w => writes_any ⟨op, d, a, 0, imm⟩ w)
  have Hf := hid (fun w => form_any op w)
  rw [hl] at Hs
  rw [writes_d ⟨op, d, a, 0, imm⟩ hr] at Hw
  rw [hr] at Hr
  rw [hf] at Hf
  simp only [Ins.val] at Hs Hr Hw
  clear hr hf hl
  go_enter Try.func9, Try.ntmps9
  go_wp2_with fail
  refine (alive2_any _).mono ?_
  rintro e9 w1 ⟨rfl, b1⟩
  have x1 := (BoxI.new w op d a 0 imm 23).below b1
  have B1 := below_tr (below_al (Below.refl _ _) _) b1
  obtain ⟨kx0, kx1, kx2, kx3, kx4⟩ := x1.ext
  have hE : Ext w1 w1 := Ext.refl w1
  have hA : ∀ o, Ext w1 (w1.alloc o) := fun o => below_al hE o
  clear b1 x1
  go_wp2_with fail
  refine (Hs.out _).mono ?_
  rintro e9 w9 ⟨v9, rfl, o9, b9⟩
  obtain ⟨A9, c9, e9, r9, q9⟩ := own_rd o9
  subst e9
  have hE' := Ext.tr hE b9 (by exact ⟨rfl, rfl, rfl, rfl⟩)
  clear hE b9 hA o9
  have hE := hE'
  clear hE'
  go_wp2_with fail
  refine (Hr.out _).mono ?_
  rintro e9 w2 ⟨rfl, b9⟩
  replace r9 := r9.below b9
  have hE' := Ext.tr hE b9 (by exact ⟨rfl, rfl, rfl, rfl⟩)
  clear hE b9
  have hE := hE'
  clear hE'
  go_wp2_with fail
  refine (Hf.out _).mono ?_
  rintro e9 w9 ⟨rfl, rfl⟩
  have hA : ∀ o, Ext w1 (w2.alloc o) := fun o => below_al hE o
  go_wp2_with (at_builtin; refine wpl_append w2.heap.size rfl 33 3 (.int .i64 0) 1 8 Try.underlying33 (by kernel_rfl) rfl (by omega) (by omega) _ 0 [] (own_nil _ _ _ _) (some ⟨w2.heap.size, 0, none⟩) 1 1 [.int .i64 a] rfl (rd_new _ _ _) (by simp) (one_cell _) (by omega) (by simp) ?_)
  intro v3 w3 o3 g3 b3
  have k3 : Below w2.heap.size w2 w3 := (below_al (Below.refl _ _) _).grown g3 (by simp) (by intro k hk; simp [Value.ownBlock] at hk)
  replace r9 := r9.below k3
  have hE' := Ext.tr hE k3 (by exact ⟨rfl, rfl, rfl, rfl⟩)
  clear hE hA g3 b3
  have hE := hE'
  clear hE'
  obtain ⟨A3, c3, e3, r3, q3⟩ := own_rd o3
  subst e3
  clear o3
  go_wp2_with fail
  have hS : ∀ W, Eqw W w3 → Calls Try.prog 19 #[.slice A9 1 c9, .slice A3 1 c3] W fun e w' => e = .returned (.bool true) ∧ Drw W w' := fun W hW => same_eq [a] 1 rfl A9 A3 c9 c3 W (by omega) (r9.eqw hW) (r3.eqw hW)
  have HS := hid hS
  clear hS r9 r3
  refine wp_region_held_np (S := fun W => Ext w1 W) 20 rfl (by kernel_rfl) ?_
  -- 0
  refine' wpAnyH_take (i := 0) (v := ?v0) rfl (by kernel_rfl) (by kernel_rfl) (by kernel_rfl) (fun _ _ _ h => h) (Or.inl ⟨by rfl, ?y0⟩) (by first | assumption | exact Ext.eq hE (by exact ⟨rfl, rfl, rfl, rfl⟩)) ?r0
  case y0 => (intro w hSw; (try simp only [List.getElem_toArray, List.getElem_cons_succ, List.getElem_cons_zero]); (try dsimp only at hSw); go_simp; (try (with_reducible rfl)))
  try simp only [Act.put, List.getElem_toArray, List.getElem_cons_succ, List.getElem_cons_zero, List.setIfInBounds_toArray, List.set_cons_zero, List.set_cons_succ]
  -- 1
  refine' wpAnyH_take (i := 1) (v := ?v1) rfl (by kernel_rfl) (by kernel_rfl) (by kernel_rfl) (fun _ _ _ h => h) (Or.inl ⟨by rfl, ?y1⟩) (by first | assumption | exact Ext.eq hE (by exact ⟨rfl, rfl, rfl, rfl⟩)) ?r1
  case y1 => (intro w hSw; (try simp only [List.getElem_toArray, List.getElem_cons_succ, List.getElem_cons_zero]); (try dsimp only at hSw); go_simp; (try (with_reducible rfl)))
  try simp only [Act.put, List.getElem_toArray, List.getElem_cons_succ, List.getElem_cons_zero, List.setIfInBounds_toArray, List.set_cons_zero, List.set_cons_succ]
  -- effect 2
  refine wpAnyH_all (rs := [2]) (by kernel_rfl) (by simp) ?_
  intro i0 hi0
  obtain rfl : i0 = 2 := by simpa using hi0
  clear hi0
  refine wpOp_do rfl (by rfl) (fun K hK => ?_)
  simp only [List.getElem_toArray, List.getElem_cons_succ, List.getElem_cons_zero]
  go_simp
  refine (HS.out _ (by exact ⟨rfl, rfl, rfl, rfl⟩)).mono ?_
  rintro e9 w9 ⟨rfl, n9, rfl⟩
  refine hK _ _ ⟨Ext.eq hE (by exact ⟨rfl, rfl, rfl, rfl⟩), ?_⟩
  clear hK K
  try simp only [Act.put, List.getElem_toArray, List.getElem_cons_succ, List.getElem_cons_zero, List.setIfInBounds_toArray, List.set_cons_zero, List.set_cons_succ]
  -- 3
  refine' wpAnyH_take (i := 3) (v := ?v3) rfl (by kernel_rfl) (by kernel_rfl) (by kernel_rfl) (fun _ _ _ h => h) (Or.inl ⟨by rfl, ?y3⟩) (by first | assumption | exact Ext.eq hE (by exact ⟨rfl, rfl, rfl, rfl⟩)) ?r3
  case y3 => (intro w hSw; (try simp only [List.getElem_toArray, List.getElem_cons_succ, List.getElem_cons_zero]); (try dsimp only at hSw); go_simp; (try (with_reducible rfl)))
  try simp only [Act.put, List.getElem_toArray, List.getElem_cons_succ, List.getElem_cons_zero, List.setIfInBounds_toArray, List.set_cons_zero, List.set_cons_succ]
  -- 4
  refine' wpAnyH_take (i := 4) (v := ?v4) rfl (by kernel_rfl) (by kernel_rfl) (by kernel_rfl) (fun _ _ _ h => h) (Or.inl ⟨by rfl, ?y4⟩) (by first | assumption | exact Ext.eq hE (by exact ⟨rfl, rfl, rfl, rfl⟩)) ?r4
  case y4 => (intro w hSw; (try simp only [List.getElem_toArray, List.getElem_cons_succ, List.getElem_cons_zero]); (try dsimp only at hSw); go_simp; (try (with_reducible rfl)))
  try simp only [Act.put, List.getElem_toArray, List.getElem_cons_succ, List.getElem_cons_zero, List.setIfInBounds_toArray, List.set_cons_zero, List.set_cons_succ]
  -- 6
  refine' wpAnyH_take (i := 6) (v := ?v6) rfl (by kernel_rfl) (by kernel_rfl) (by kernel_rfl) (fun _ _ _ h => h) (Or.inl ⟨by rfl, ?y6⟩) (by first | assumption | exact Ext.eq hE (by exact ⟨rfl, rfl, rfl, rfl⟩)) ?r6
  case y6 => (intro w hSw; (try simp only [List.getElem_toArray, List.getElem_cons_succ, List.getElem_cons_zero]); (try dsimp only at hSw); go_simp; (try (with_reducible rfl)))
  try simp only [Act.put, List.getElem_toArray, List.getElem_cons_succ, List.getElem_cons_zero, List.setIfInBounds_toArray, List.set_cons_zero, List.set_cons_succ]
  -- 7
  refine' wpAnyH_take (i := 7) (v := ?v7) rfl (by kernel_rfl) (by kernel_rfl) (by kernel_rfl) (fun _ _ _ h => h) (Or.inl ⟨by rfl, ?y7⟩) (by first | assumption | exact Ext.eq hE (by exact ⟨rfl, rfl, rfl, rfl⟩)) ?r7
  case y7 => (intro w hSw; (try simp only [List.getElem_toArray, List.getElem_cons_succ, List.getElem_cons_zero]); (try dsimp only at hSw); go_simp; (try (with_reducible rfl)))
  try simp only [Act.put, List.getElem_toArray, List.getElem_cons_succ, List.getElem_cons_zero, List.setIfInBounds_toArray, List.set_cons_zero, List.set_cons_succ]
  -- effect 5
  refine wpAnyH_all (rs := [5]) (by kernel_rfl) (by simp) ?_
  intro i0 hi0
  obtain rfl : i0 = 5 := by simpa using hi0
  clear hi0
  refine wpOp_do rfl (by rfl) (fun K hK => ?_)
  simp only [List.getElem_toArray, List.getElem_cons_succ, List.getElem_cons_zero]
  go_simp
  refine (Hw.out _).mono ?_
  rintro e9 w9 ⟨rfl, b9⟩
  have hE' := Ext.tr hE b9 (by exact ⟨rfl, rfl, rfl, rfl⟩)
  refine hK _ _ ⟨hE', ?_⟩
  clear hK K hE b9
  have hE := hE'
  clear hE'
  try simp only [Act.put, List.getElem_toArray, List.getElem_cons_succ, List.getElem_cons_zero, List.setIfInBounds_toArray, List.set_cons_zero, List.set_cons_succ]
  -- 8
  refine' wpAnyH_take (i := 8) (v := ?v8) rfl (by kernel_rfl) (by kernel_rfl) (by kernel_rfl) (fun _ _ _ h => h) (Or.inl ⟨by rfl, ?y8⟩) (by first | assumption | exact Ext.eq hE (by exact ⟨rfl, rfl, rfl, rfl⟩)) ?r8
  case y8 => (intro w hSw; (try simp only [List.getElem_toArray, List.getElem_cons_succ, List.getElem_cons_zero]); (try dsimp only at hSw); go_simp; (try (with_reducible rfl)))
  try simp only [Act.put, List.getElem_toArray, List.getElem_cons_succ, List.getElem_cons_zero, List.setIfInBounds_toArray, List.set_cons_zero, List.set_cons_succ]
  -- 9
  refine' wpAnyH_take (i := 9) (v := ?v9) rfl (by kernel_rfl) (by kernel_rfl) (by kernel_rfl) (fun _ _ _ h => h) (Or.inl ⟨by rfl, ?y9⟩) (by first | assumption | exact Ext.eq hE (by exact ⟨rfl, rfl, rfl, rfl⟩)) ?r9
  case y9 => (intro w hSw; (try simp only [List.getElem_toArray, List.getElem_cons_succ, List.getElem_cons_zero]); (try dsimp only at hSw); go_simp; (try (with_reducible rfl)))
  try simp only [Act.put, List.getElem_toArray, List.getElem_cons_succ, List.getElem_cons_zero, List.setIfInBounds_toArray, List.set_cons_zero, List.set_cons_succ]
  -- 10
  refine' wpAnyH_take (i := 10) (v := ?v10) rfl (by kernel_rfl) (by kernel_rfl) (by kernel_rfl) (fun _ _ _ h => h) (Or.inl ⟨by rfl, ?y10⟩) (by first | assumption | exact Ext.eq hE (by exact ⟨rfl, rfl, rfl, rfl⟩)) ?r10
  case y10 => (intro w hSw; (try simp only [List.getElem_toArray, List.getElem_cons_succ, List.getElem_cons_zero]); (try dsimp only at hSw); go_simp; (try (with_reducible rfl)))
  try simp only [Act.put, List.getElem_toArray, List.getElem_cons_succ, List.getElem_cons_zero, List.setIfInBounds_toArray, List.set_cons_zero, List.set_cons_succ]
  -- 11
  refine' wpAnyH_take (i := 11) (v := ?v11) rfl (by kernel_rfl) (by kernel_rfl) (by kernel_rfl) (fun _ _ _ h => h) (Or.inl ⟨by rfl, ?y11⟩) (by first | assumption | exact Ext.eq hE (by exact ⟨rfl, rfl, rfl, rfl⟩)) ?r11
  case y11 => (intro w hSw; (try simp only [List.getElem_toArray, List.getElem_cons_succ, List.getElem_cons_zero]); (try dsimp only at hSw); go_simp; (try (with_reducible rfl)))
  try simp only [Act.put, List.getElem_toArray, List.getElem_cons_succ, List.getElem_cons_zero, List.setIfInBounds_toArray, List.set_cons_zero, List.set_cons_succ]
  -- 12
  refine' wpAnyH_take (i := 12) (v := ?v12) rfl (by kernel_rfl) (by kernel_rfl) (by kernel_rfl) (fun _ _ _ h => h) (Or.inl ⟨by rfl, ?y12⟩) (by first | assumption | exact Ext.eq hE (by exact ⟨rfl, rfl, rfl, rfl⟩)) ?r12
  case y12 => (intro w hSw; (try simp only [List.getElem_toArray, List.getElem_cons_succ, List.getElem_cons_zero]); (try dsimp only at hSw); go_simp; (try (with_reducible rfl)))
  try simp only [Act.put, List.getElem_toArray, List.getElem_cons_succ, List.getElem_cons_zero, List.setIfInBounds_toArray, List.set_cons_zero, List.set_cons_succ]
  -- 13
  refine' wpAnyH_take (i := 13) (v := ?v13) rfl (by kernel_rfl) (by kernel_rfl) (by kernel_rfl) (fun _ _ _ h => h) (Or.inl ⟨by rfl, ?y13⟩) (by first | assumption | exact Ext.eq hE (by exact ⟨rfl, rfl, rfl, rfl⟩)) ?r13
  case y13 => (intro w hSw; (try simp only [List.getElem_toArray, List.getElem_cons_succ, List.getElem_cons_zero]); (try dsimp only at hSw); go_simp; (try (with_reducible rfl)))
  try simp only [Act.put, List.getElem_toArray, List.getElem_cons_succ, List.getElem_cons_zero, List.setIfInBounds_toArray, List.set_cons_zero, List.set_cons_succ]
  -- 14 passed over
  refine wpAnyH_take (i := 14) (v := undef) rfl (by kernel_rfl) (by kernel_rfl) (by kernel_rfl) (fun _ _ _ h => h) (Or.inr ⟨by rfl, rfl⟩) (by first | assumption | exact Ext.eq hE (by exact ⟨rfl, rfl, rfl, rfl⟩)) ?_
  try simp only [Act.put, List.getElem_toArray, List.getElem_cons_succ, List.getElem_cons_zero, List.setIfInBounds_toArray, List.set_cons_zero, List.set_cons_succ]
  -- 15 passed over
  refine wpAnyH_take (i := 15) (v := undef) rfl (by kernel_rfl) (by kernel_rfl) (by kernel_rfl) (fun _ _ _ h => h) (Or.inr ⟨by rfl, rfl⟩) (by first | assumption | exact Ext.eq hE (by exact ⟨rfl, rfl, rfl, rfl⟩)) ?_
  try simp only [Act.put, List.getElem_toArray, List.getElem_cons_succ, List.getElem_cons_zero, List.setIfInBounds_toArray, List.set_cons_zero, List.set_cons_succ]
  -- 16 passed over
  refine wpAnyH_take (i := 16) (v := undef) rfl (by kernel_rfl) (by kernel_rfl) (by kernel_rfl) (fun _ _ _ h => h) (Or.inr ⟨by rfl, rfl⟩) (by first | assumption | exact Ext.eq hE (by exact ⟨rfl, rfl, rfl, rfl⟩)) ?_
  try simp only [Act.put, List.getElem_toArray, List.getElem_cons_succ, List.getElem_cons_zero, List.setIfInBounds_toArray, List.set_cons_zero, List.set_cons_succ]
  -- 17
  refine' wpAnyH_take (i := 17) (v := ?v17) rfl (by kernel_rfl) (by kernel_rfl) (by kernel_rfl) (fun _ _ _ h => h) (Or.inl ⟨by rfl, ?y17⟩) (by first | assumption | exact Ext.eq hE (by exact ⟨rfl, rfl, rfl, rfl⟩)) ?r17
  case y17 => (intro w hSw; (try simp only [List.getElem_toArray, List.getElem_cons_succ, List.getElem_cons_zero]); (try dsimp only at hSw); go_simp; (try (with_reducible rfl)))
  try simp only [Act.put, List.getElem_toArray, List.getElem_cons_succ, List.getElem_cons_zero, List.setIfInBounds_toArray, List.set_cons_zero, List.set_cons_succ]
  -- 18
  refine' wpAnyH_take (i := 18) (v := ?v18) rfl (by kernel_rfl) (by kernel_rfl) (by kernel_rfl) (fun _ _ _ h => h) (Or.inl ⟨by rfl, ?y18⟩) (by first | assumption | exact Ext.eq hE (by exact ⟨rfl, rfl, rfl, rfl⟩)) ?r18
  case y18 => (intro w hSw; (try simp only [List.getElem_toArray, List.getElem_cons_succ, List.getElem_cons_zero]); (try dsimp only at hSw); go_simp; (try (with_reducible rfl)))
  try simp only [Act.put, List.getElem_toArray, List.getElem_cons_succ, List.getElem_cons_zero, List.setIfInBounds_toArray, List.set_cons_zero, List.set_cons_succ]
  -- 19
  refine' wpAnyH_take (i := 19) (v := ?v19) rfl (by kernel_rfl) (by kernel_rfl) (by kernel_rfl) (fun _ _ _ h => h) (Or.inl ⟨by rfl, ?y19⟩) (by first | assumption | exact Ext.eq hE (by exact ⟨rfl, rfl, rfl, rfl⟩)) ?r19
  case y19 => (intro w hSw; (try simp only [List.getElem_toArray, List.getElem_cons_succ, List.getElem_cons_zero]); (try dsimp only at hSw); go_simp; (try (with_reducible rfl)))
  try simp only [Act.put, List.getElem_toArray, List.getElem_cons_succ, List.getElem_cons_zero, List.setIfInBounds_toArray, List.set_cons_zero, List.set_cons_succ]
  refine wpAnyH_done (by kernel_rfl) ?_ _
  refine NoPanic.normal ?_
  go_wp2
  go_ret
  exact ⟨rfl, below_tr B1 (by first | exact hE | exact Ext.eq hE ⟨rfl, rfl, rfl, rfl⟩)⟩

set_option maxHeartbeats 4000000 in
theorem isaReads_300 (op d imm : Int) (w : World) (hr : rightB ⟨op, d, 0, 0, imm⟩ = true) (hf : form op = 3) (hl : readsL ⟨op, d, 0, 0, imm⟩ = []) :
    Calls Try.prog 9 #[.agg #[.int .i64 op, .int .i64 d, .int .i64 0, .int .i64 0, .int .i64 imm]] w fun e w' => e = .returned (.bool true) ∧ Below w.heap.size w w' := by
  have Hs := hid (fun w => reads_any ⟨op, d, 0, 0, imm⟩ w)
  have Hr := hid (fun w => refRight_any ⟨op, d, 0, 0, imm⟩ w)
  have Hw := hid (fun w => writes_any ⟨op, d, 0, 0, imm⟩ w)
  have Hf := hid (fun w => form_any op w)
  rw [hl] at Hs
  rw [writes_d ⟨op, d, 0, 0, imm⟩ hr] at Hw
  rw [hr] at Hr
  rw [hf] at Hf
  simp only [Ins.val] at Hs Hr Hw
  clear hr hf hl
  go_enter Try.func9, Try.ntmps9
  go_wp2_with fail
  refine (alive2_any _).mono ?_
  rintro e9 w1 ⟨rfl, b1⟩
  have x1 := (BoxI.new w op d 0 0 imm 23).below b1
  have B1 := below_tr (below_al (Below.refl _ _) _) b1
  obtain ⟨kx0, kx1, kx2, kx3, kx4⟩ := x1.ext
  have hE : Ext w1 w1 := Ext.refl w1
  have hA : ∀ o, Ext w1 (w1.alloc o) := fun o => below_al hE o
  clear b1 x1
  go_wp2_with fail
  refine (Hs.out _).mono ?_
  rintro e9 w9 ⟨v9, rfl, o9, b9⟩
  obtain ⟨A9, c9, e9, r9, q9⟩ := own_rd o9
  subst e9
  have hE' := Ext.tr hE b9 (by exact ⟨rfl, rfl, rfl, rfl⟩)
  clear hE b9 hA o9
  have hE := hE'
  clear hE'
  go_wp2_with fail
  refine (Hr.out _).mono ?_
  rintro e9 w2 ⟨rfl, b9⟩
  replace r9 := r9.below b9
  have hE' := Ext.tr hE b9 (by exact ⟨rfl, rfl, rfl, rfl⟩)
  clear hE b9
  have hE := hE'
  clear hE'
  go_wp2_with fail
  refine (Hf.out _).mono ?_
  rintro e9 w9 ⟨rfl, rfl⟩
  have hA : ∀ o, Ext w1 (w2.alloc o) := fun o => below_al hE o
  clear hA
  go_wp2_with fail
  have hS : ∀ W, Eqw W w2 → Calls Try.prog 19 #[.slice A9 0 c9, .slice none 0 0] W fun e w' => e = .returned (.bool true) ∧ Drw W w' := fun W hW => same_eq [] 0 rfl A9 none c9 0 W (by omega) (r9.eqw hW) (Rd.nil _ _)
  have HS := hid hS
  clear hS r9
  refine wp_region_held_np (S := fun W => Ext w1 W) 20 rfl (by kernel_rfl) ?_
  -- 0
  refine' wpAnyH_take (i := 0) (v := ?v0) rfl (by kernel_rfl) (by kernel_rfl) (by kernel_rfl) (fun _ _ _ h => h) (Or.inl ⟨by rfl, ?y0⟩) (by first | assumption | exact Ext.eq hE (by exact ⟨rfl, rfl, rfl, rfl⟩)) ?r0
  case y0 => (intro w hSw; (try simp only [List.getElem_toArray, List.getElem_cons_succ, List.getElem_cons_zero]); (try dsimp only at hSw); go_simp; (try (with_reducible rfl)))
  try simp only [Act.put, List.getElem_toArray, List.getElem_cons_succ, List.getElem_cons_zero, List.setIfInBounds_toArray, List.set_cons_zero, List.set_cons_succ]
  -- 1
  refine' wpAnyH_take (i := 1) (v := ?v1) rfl (by kernel_rfl) (by kernel_rfl) (by kernel_rfl) (fun _ _ _ h => h) (Or.inl ⟨by rfl, ?y1⟩) (by first | assumption | exact Ext.eq hE (by exact ⟨rfl, rfl, rfl, rfl⟩)) ?r1
  case y1 => (intro w hSw; (try simp only [List.getElem_toArray, List.getElem_cons_succ, List.getElem_cons_zero]); (try dsimp only at hSw); go_simp; (try (with_reducible rfl)))
  try simp only [Act.put, List.getElem_toArray, List.getElem_cons_succ, List.getElem_cons_zero, List.setIfInBounds_toArray, List.set_cons_zero, List.set_cons_succ]
  -- effect 2
  refine wpAnyH_all (rs := [2]) (by kernel_rfl) (by simp) ?_
  intro i0 hi0
  obtain rfl : i0 = 2 := by simpa using hi0
  clear hi0
  refine wpOp_do rfl (by rfl) (fun K hK => ?_)
  simp only [List.getElem_toArray, List.getElem_cons_succ, List.getElem_cons_zero]
  go_simp
  refine (HS.out _ (by exact ⟨rfl, rfl, rfl, rfl⟩)).mono ?_
  rintro e9 w9 ⟨rfl, n9, rfl⟩
  refine hK _ _ ⟨Ext.eq hE (by exact ⟨rfl, rfl, rfl, rfl⟩), ?_⟩
  clear hK K
  try simp only [Act.put, List.getElem_toArray, List.getElem_cons_succ, List.getElem_cons_zero, List.setIfInBounds_toArray, List.set_cons_zero, List.set_cons_succ]
  -- 3
  refine' wpAnyH_take (i := 3) (v := ?v3) rfl (by kernel_rfl) (by kernel_rfl) (by kernel_rfl) (fun _ _ _ h => h) (Or.inl ⟨by rfl, ?y3⟩) (by first | assumption | exact Ext.eq hE (by exact ⟨rfl, rfl, rfl, rfl⟩)) ?r3
  case y3 => (intro w hSw; (try simp only [List.getElem_toArray, List.getElem_cons_succ, List.getElem_cons_zero]); (try dsimp only at hSw); go_simp; (try (with_reducible rfl)))
  try simp only [Act.put, List.getElem_toArray, List.getElem_cons_succ, List.getElem_cons_zero, List.setIfInBounds_toArray, List.set_cons_zero, List.set_cons_succ]
  -- 4
  refine' wpAnyH_take (i := 4) (v := ?v4) rfl (by kernel_rfl) (by kernel_rfl) (by kernel_rfl) (fun _ _ _ h => h) (Or.inl ⟨by rfl, ?y4⟩) (by first | assumption | exact Ext.eq hE (by exact ⟨rfl, rfl, rfl, rfl⟩)) ?r4
  case y4 => (intro w hSw; (try simp only [List.getElem_toArray, List.getElem_cons_succ, List.getElem_cons_zero]); (try dsimp only at hSw); go_simp; (try (with_reducible rfl)))
  try simp only [Act.put, List.getElem_toArray, List.getElem_cons_succ, List.getElem_cons_zero, List.setIfInBounds_toArray, List.set_cons_zero, List.set_cons_succ]
  -- 6
  refine' wpAnyH_take (i := 6) (v := ?v6) rfl (by kernel_rfl) (by kernel_rfl) (by kernel_rfl) (fun _ _ _ h => h) (Or.inl ⟨by rfl, ?y6⟩) (by first | assumption | exact Ext.eq hE (by exact ⟨rfl, rfl, rfl, rfl⟩)) ?r6
  case y6 => (intro w hSw; (try simp only [List.getElem_toArray, List.getElem_cons_succ, List.getElem_cons_zero]); (try dsimp only at hSw); go_simp; (try (with_reducible rfl)))
  try simp only [Act.put, List.getElem_toArray, List.getElem_cons_succ, List.getElem_cons_zero, List.setIfInBounds_toArray, List.set_cons_zero, List.set_cons_succ]
  -- 7
  refine' wpAnyH_take (i := 7) (v := ?v7) rfl (by kernel_rfl) (by kernel_rfl) (by kernel_rfl) (fun _ _ _ h => h) (Or.inl ⟨by rfl, ?y7⟩) (by first | assumption | exact Ext.eq hE (by exact ⟨rfl, rfl, rfl, rfl⟩)) ?r7
  case y7 => (intro w hSw; (try simp only [List.getElem_toArray, List.getElem_cons_succ, List.getElem_cons_zero]); (try dsimp only at hSw); go_simp; (try (with_reducible rfl)))
  try simp only [Act.put, List.getElem_toArray, List.getElem_cons_succ, List.getElem_cons_zero, List.setIfInBounds_toArray, List.set_cons_zero, List.set_cons_succ]
  -- effect 5
  refine wpAnyH_all (rs := [5]) (by kernel_rfl) (by simp) ?_
  intro i0 hi0
  obtain rfl : i0 = 5 := by simpa using hi0
  clear hi0
  refine wpOp_do rfl (by rfl) (fun K hK => ?_)
  simp only [List.getElem_toArray, List.getElem_cons_succ, List.getElem_cons_zero]
  go_simp
  refine (Hw.out _).mono ?_
  rintro e9 w9 ⟨rfl, b9⟩
  have hE' := Ext.tr hE b9 (by exact ⟨rfl, rfl, rfl, rfl⟩)
  refine hK _ _ ⟨hE', ?_⟩
  clear hK K hE b9
  have hE := hE'
  clear hE'
  try simp only [Act.put, List.getElem_toArray, List.getElem_cons_succ, List.getElem_cons_zero, List.setIfInBounds_toArray, List.set_cons_zero, List.set_cons_succ]
  -- 8
  refine' wpAnyH_take (i := 8) (v := ?v8) rfl (by kernel_rfl) (by kernel_rfl) (by kernel_rfl) (fun _ _ _ h => h) (Or.inl ⟨by rfl, ?y8⟩) (by first | assumption | exact Ext.eq hE (by exact ⟨rfl, rfl, rfl, rfl⟩)) ?r8
  case y8 => (intro w hSw; (try simp only [List.getElem_toArray, List.getElem_cons_succ, List.getElem_cons_zero]); (try dsimp only at hSw); go_simp; (try (with_reducible rfl)))
  try simp only [Act.put, List.getElem_toArray, List.getElem_cons_succ, List.getElem_cons_zero, List.setIfInBounds_toArray, List.set_cons_zero, List.set_cons_succ]
  -- 9
  refine' wpAnyH_take (i := 9) (v := ?v9) rfl (by kernel_rfl) (by kernel_rfl) (by kernel_rfl) (fun _ _ _ h => h) (Or.inl ⟨by rfl, ?y9⟩) (by first | assumption | exact Ext.eq hE (by exact ⟨rfl, rfl, rfl, rfl⟩)) ?r9
  case y9 => (intro w hSw; (try simp only [List.getElem_toArray, List.getElem_cons_succ, List.getElem_cons_zero]); (try dsimp only at hSw); go_simp; (try (with_reducible rfl)))
  try simp only [Act.put, List.getElem_toArray, List.getElem_cons_succ, List.getElem_cons_zero, List.setIfInBounds_toArray, List.set_cons_zero, List.set_cons_succ]
  -- 10
  refine' wpAnyH_take (i := 10) (v := ?v10) rfl (by kernel_rfl) (by kernel_rfl) (by kernel_rfl) (fun _ _ _ h => h) (Or.inl ⟨by rfl, ?y10⟩) (by first | assumption | exact Ext.eq hE (by exact ⟨rfl, rfl, rfl, rfl⟩)) ?r10
  case y10 => (intro w hSw; (try simp only [List.getElem_toArray, List.getElem_cons_succ, List.getElem_cons_zero]); (try dsimp only at hSw); go_simp; (try (with_reducible rfl)))
  try simp only [Act.put, List.getElem_toArray, List.getElem_cons_succ, List.getElem_cons_zero, List.setIfInBounds_toArray, List.set_cons_zero, List.set_cons_succ]
  -- 11
  refine' wpAnyH_take (i := 11) (v := ?v11) rfl (by kernel_rfl) (by kernel_rfl) (by kernel_rfl) (fun _ _ _ h => h) (Or.inl ⟨by rfl, ?y11⟩) (by first | assumption | exact Ext.eq hE (by exact ⟨rfl, rfl, rfl, rfl⟩)) ?r11
  case y11 => (intro w hSw; (try simp only [List.getElem_toArray, List.getElem_cons_succ, List.getElem_cons_zero]); (try dsimp only at hSw); go_simp; (try (with_reducible rfl)))
  try simp only [Act.put, List.getElem_toArray, List.getElem_cons_succ, List.getElem_cons_zero, List.setIfInBounds_toArray, List.set_cons_zero, List.set_cons_succ]
  -- 12
  refine' wpAnyH_take (i := 12) (v := ?v12) rfl (by kernel_rfl) (by kernel_rfl) (by kernel_rfl) (fun _ _ _ h => h) (Or.inl ⟨by rfl, ?y12⟩) (by first | assumption | exact Ext.eq hE (by exact ⟨rfl, rfl, rfl, rfl⟩)) ?r12
  case y12 => (intro w hSw; (try simp only [List.getElem_toArray, List.getElem_cons_succ, List.getElem_cons_zero]); (try dsimp only at hSw); go_simp; (try (with_reducible rfl)))
  try simp only [Act.put, List.getElem_toArray, List.getElem_cons_succ, List.getElem_cons_zero, List.setIfInBounds_toArray, List.set_cons_zero, List.set_cons_succ]
  -- 13
  refine' wpAnyH_take (i := 13) (v := ?v13) rfl (by kernel_rfl) (by kernel_rfl) (by kernel_rfl) (fun _ _ _ h => h) (Or.inl ⟨by rfl, ?y13⟩) (by first | assumption | exact Ext.eq hE (by exact ⟨rfl, rfl, rfl, rfl⟩)) ?r13
  case y13 => (intro w hSw; (try simp only [List.getElem_toArray, List.getElem_cons_succ, List.getElem_cons_zero]); (try dsimp only at hSw); go_simp; (try (with_reducible rfl)))
  try simp only [Act.put, List.getElem_toArray, List.getElem_cons_succ, List.getElem_cons_zero, List.setIfInBounds_toArray, List.set_cons_zero, List.set_cons_succ]
  -- 14 passed over
  refine wpAnyH_take (i := 14) (v := undef) rfl (by kernel_rfl) (by kernel_rfl) (by kernel_rfl) (fun _ _ _ h => h) (Or.inr ⟨by rfl, rfl⟩) (by first | assumption | exact Ext.eq hE (by exact ⟨rfl, rfl, rfl, rfl⟩)) ?_
  try simp only [Act.put, List.getElem_toArray, List.getElem_cons_succ, List.getElem_cons_zero, List.setIfInBounds_toArray, List.set_cons_zero, List.set_cons_succ]
  -- 15 passed over
  refine wpAnyH_take (i := 15) (v := undef) rfl (by kernel_rfl) (by kernel_rfl) (by kernel_rfl) (fun _ _ _ h => h) (Or.inr ⟨by rfl, rfl⟩) (by first | assumption | exact Ext.eq hE (by exact ⟨rfl, rfl, rfl, rfl⟩)) ?_
  try simp only [Act.put, List.getElem_toArray, List.getElem_cons_succ, List.getElem_cons_zero, List.setIfInBounds_toArray, List.set_cons_zero, List.set_cons_succ]
  -- 16 passed over
  refine wpAnyH_take (i := 16) (v := undef) rfl (by kernel_rfl) (by kernel_rfl) (by kernel_rfl) (fun _ _ _ h => h) (Or.inr ⟨by rfl, rfl⟩) (by first | assumption | exact Ext.eq hE (by exact ⟨rfl, rfl, rfl, rfl⟩)) ?_
  try simp only [Act.put, List.getElem_toArray, List.getElem_cons_succ, List.getElem_cons_zero, List.setIfInBounds_toArray, List.set_cons_zero, List.set_cons_succ]
  -- 17
  refine' wpAnyH_take (i := 17) (v := ?v17) rfl (by kernel_rfl) (by kernel_rfl) (by kernel_rfl) (fun _ _ _ h => h) (Or.inl ⟨by rfl, ?y17⟩) (by first | assumption | exact Ext.eq hE (by exact ⟨rfl, rfl, rfl, rfl⟩)) ?r17
  case y17 => (intro w hSw; (try simp only [List.getElem_toArray, List.getElem_cons_succ, List.getElem_cons_zero]); (try dsimp only at hSw); go_simp; (try (with_reducible rfl)))
  try simp only [Act.put, List.getElem_toArray, List.getElem_cons_succ, List.getElem_cons_zero, List.setIfInBounds_toArray, List.set_cons_zero, List.set_cons_succ]
  -- 18
  refine' wpAnyH_take (i := 18) (v := ?v18) rfl (by kernel_rfl) (by kernel_rfl) (by kernel_rfl) (fun _ _ _ h => h) (Or.inl ⟨by rfl, ?y18⟩) (by first | assumption | exact Ext.eq hE (by exact ⟨rfl, rfl, rfl, rfl⟩)) ?r18
  case y18 => (intro w hSw; (try simp only [List.getElem_toArray, List.getElem_cons_succ, List.getElem_cons_zero]); (try dsimp only at hSw); go_simp; (try (with_reducible rfl)))
  try simp only [Act.put, List.getElem_toArray, List.getElem_cons_succ, List.getElem_cons_zero, List.setIfInBounds_toArray, List.set_cons_zero, List.set_cons_succ]
  -- 19
  refine' wpAnyH_take (i := 19) (v := ?v19) rfl (by kernel_rfl) (by kernel_rfl) (by kernel_rfl) (fun _ _ _ h => h) (Or.inl ⟨by rfl, ?y19⟩) (by first | assumption | exact Ext.eq hE (by exact ⟨rfl, rfl, rfl, rfl⟩)) ?r19
  case y19 => (intro w hSw; (try simp only [List.getElem_toArray, List.getElem_cons_succ, List.getElem_cons_zero]); (try dsimp only at hSw); go_simp; (try (with_reducible rfl)))
  try simp only [Act.put, List.getElem_toArray, List.getElem_cons_succ, List.getElem_cons_zero, List.setIfInBounds_toArray, List.set_cons_zero, List.set_cons_succ]
  refine wpAnyH_done (by kernel_rfl) ?_ _
  refine NoPanic.normal ?_
  go_wp2
  go_ret
  exact ⟨rfl, below_tr B1 (by first | exact hE | exact Ext.eq hE ⟨rfl, rfl, rfl, rfl⟩)⟩

set_option maxHeartbeats 4000000 in
theorem isaReads_400 (op d imm : Int) (w : World) (hr : rightB ⟨op, d, 0, 0, imm⟩ = true) (hf : form op = 4) (hl : readsL ⟨op, d, 0, 0, imm⟩ = []) :
    Calls Try.prog 9 #[.agg #[.int .i64 op, .int .i64 d, .int .i64 0, .int .i64 0, .int .i64 imm]] w fun e w' => e = .returned (.bool true) ∧ Below w.heap.size w w' := by
  have Hs := hid (fun w => reads_any ⟨op, d, 0, 0, imm⟩ w)
  have Hr := hid (fun w => refRight_any ⟨op, d, 0, 0, imm⟩ w)
  have Hw := hid (fun w => writes_any ⟨op, d, 0, 0, imm⟩ w)
  have Hf := hid (fun w => form_any op w)
  rw [hl] at Hs
  rw [writes_d ⟨op, d, 0, 0, imm⟩ hr] at Hw
  rw [hr] at Hr
  rw [hf] at Hf
  simp only [Ins.val] at Hs Hr Hw
  clear hr hf hl
  go_enter Try.func9, Try.ntmps9
  go_wp2_with fail
  refine (alive2_any _).mono ?_
  rintro e9 w1 ⟨rfl, b1⟩
  have x1 := (BoxI.new w op d 0 0 imm 23).below b1
  have B1 := below_tr (below_al (Below.refl _ _) _) b1
  obtain ⟨kx0, kx1, kx2, kx3, kx4⟩ := x1.ext
  have hE : Ext w1 w1 := Ext.refl w1
  have hA : ∀ o, Ext w1 (w1.alloc o) := fun o => below_al hE o
  clear b1 x1
  go_wp2_with fail
  refine (Hs.out _).mono ?_
  rintro e9 w9 ⟨v9, rfl, o9, b9⟩
  obtain ⟨A9, c9, e9, r9, q9⟩ := own_rd o9
  subst e9
  have hE' := Ext.tr hE b9 (by exact ⟨rfl, rfl, rfl, rfl⟩)
  clear hE b9 hA o9
  have hE := hE'
  clear hE'
  go_wp2_with fail
  refine (Hr.out _).mono ?_
  rintro e9 w2 ⟨rfl, b9⟩
  replace r9 := r9.below b9
  have hE' := Ext.tr hE b9 (by exact ⟨rfl, rfl, rfl, rfl⟩)
  clear hE b9
  have hE := hE'
  clear hE'
  go_wp2_with fail
  refine (Hf.out _).mono ?_
  rintro e9 w9 ⟨rfl, rfl⟩
  have hA : ∀ o, Ext w1 (w2.alloc o) := fun o => below_al hE o
  clear hA
  go_wp2_with fail
  have hS : ∀ W, Eqw W w2 → Calls Try.prog 19 #[.slice A9 0 c9, .slice none 0 0] W fun e w' => e = .returned (.bool true) ∧ Drw W w' := fun W hW => same_eq [] 0 rfl A9 none c9 0 W (by omega) (r9.eqw hW) (Rd.nil _ _)
  have HS := hid hS
  clear hS r9
  refine wp_region_held_np (S := fun W => Ext w1 W) 20 rfl (by kernel_rfl) ?_
  -- 0
  refine' wpAnyH_take (i := 0) (v := ?v0) rfl (by kernel_rfl) (by kernel_rfl) (by kernel_rfl) (fun _ _ _ h => h) (Or.inl ⟨by rfl, ?y0⟩) (by first | assumption | exact Ext.eq hE (by exact ⟨rfl, rfl, rfl, rfl⟩)) ?r0
  case y0 => (intro w hSw; (try simp only [List.getElem_toArray, List.getElem_cons_succ, List.getElem_cons_zero]); (try dsimp only at hSw); go_simp; (try (with_reducible rfl)))
  try simp only [Act.put, List.getElem_toArray, List.getElem_cons_succ, List.getElem_cons_zero, List.setIfInBounds_toArray, List.set_cons_zero, List.set_cons_succ]
  -- 1
  refine' wpAnyH_take (i := 1) (v := ?v1) rfl (by kernel_rfl) (by kernel_rfl) (by kernel_rfl) (fun _ _ _ h => h) (Or.inl ⟨by rfl, ?y1⟩) (by first | assumption | exact Ext.eq hE (by exact ⟨rfl, rfl, rfl, rfl⟩)) ?r1
  case y1 => (intro w hSw; (try simp only [List.getElem_toArray, List.getElem_cons_succ, List.getElem_cons_zero]); (try dsimp only at hSw); go_simp; (try (with_reducible rfl)))
  try simp only [Act.put, List.getElem_toArray, List.getElem_cons_succ, List.getElem_cons_zero, List.setIfInBounds_toArray, List.set_cons_zero, List.set_cons_succ]
  -- effect 2
  refine wpAnyH_all (rs := [2]) (by kernel_rfl) (by simp) ?_
  intro i0 hi0
  obtain rfl : i0 = 2 := by simpa using hi0
  clear hi0
  refine wpOp_do rfl (by rfl) (fun K hK => ?_)
  simp only [List.getElem_toArray, List.getElem_cons_succ, List.getElem_cons_zero]
  go_simp
  refine (HS.out _ (by exact ⟨rfl, rfl, rfl, rfl⟩)).mono ?_
  rintro e9 w9 ⟨rfl, n9, rfl⟩
  refine hK _ _ ⟨Ext.eq hE (by exact ⟨rfl, rfl, rfl, rfl⟩), ?_⟩
  clear hK K
  try simp only [Act.put, List.getElem_toArray, List.getElem_cons_succ, List.getElem_cons_zero, List.setIfInBounds_toArray, List.set_cons_zero, List.set_cons_succ]
  -- 3
  refine' wpAnyH_take (i := 3) (v := ?v3) rfl (by kernel_rfl) (by kernel_rfl) (by kernel_rfl) (fun _ _ _ h => h) (Or.inl ⟨by rfl, ?y3⟩) (by first | assumption | exact Ext.eq hE (by exact ⟨rfl, rfl, rfl, rfl⟩)) ?r3
  case y3 => (intro w hSw; (try simp only [List.getElem_toArray, List.getElem_cons_succ, List.getElem_cons_zero]); (try dsimp only at hSw); go_simp; (try (with_reducible rfl)))
  try simp only [Act.put, List.getElem_toArray, List.getElem_cons_succ, List.getElem_cons_zero, List.setIfInBounds_toArray, List.set_cons_zero, List.set_cons_succ]
  -- 4
  refine' wpAnyH_take (i := 4) (v := ?v4) rfl (by kernel_rfl) (by kernel_rfl) (by kernel_rfl) (fun _ _ _ h => h) (Or.inl ⟨by rfl, ?y4⟩) (by first | assumption | exact Ext.eq hE (by exact ⟨rfl, rfl, rfl, rfl⟩)) ?r4
  case y4 => (intro w hSw; (try simp only [List.getElem_toArray, List.getElem_cons_succ, List.getElem_cons_zero]); (try dsimp only at hSw); go_simp; (try (with_reducible rfl)))
  try simp only [Act.put, List.getElem_toArray, List.getElem_cons_succ, List.getElem_cons_zero, List.setIfInBounds_toArray, List.set_cons_zero, List.set_cons_succ]
  -- 6
  refine' wpAnyH_take (i := 6) (v := ?v6) rfl (by kernel_rfl) (by kernel_rfl) (by kernel_rfl) (fun _ _ _ h => h) (Or.inl ⟨by rfl, ?y6⟩) (by first | assumption | exact Ext.eq hE (by exact ⟨rfl, rfl, rfl, rfl⟩)) ?r6
  case y6 => (intro w hSw; (try simp only [List.getElem_toArray, List.getElem_cons_succ, List.getElem_cons_zero]); (try dsimp only at hSw); go_simp; (try (with_reducible rfl)))
  try simp only [Act.put, List.getElem_toArray, List.getElem_cons_succ, List.getElem_cons_zero, List.setIfInBounds_toArray, List.set_cons_zero, List.set_cons_succ]
  -- 7
  refine' wpAnyH_take (i := 7) (v := ?v7) rfl (by kernel_rfl) (by kernel_rfl) (by kernel_rfl) (fun _ _ _ h => h) (Or.inl ⟨by rfl, ?y7⟩) (by first | assumption | exact Ext.eq hE (by exact ⟨rfl, rfl, rfl, rfl⟩)) ?r7
  case y7 => (intro w hSw; (try simp only [List.getElem_toArray, List.getElem_cons_succ, List.getElem_cons_zero]); (try dsimp only at hSw); go_simp; (try (with_reducible rfl)))
  try simp only [Act.put, List.getElem_toArray, List.getElem_cons_succ, List.getElem_cons_zero, List.setIfInBounds_toArray, List.set_cons_zero, List.set_cons_succ]
  -- effect 5
  refine wpAnyH_all (rs := [5]) (by kernel_rfl) (by simp) ?_
  intro i0 hi0
  obtain rfl : i0 = 5 := by simpa using hi0
  clear hi0
  refine wpOp_do rfl (by rfl) (fun K hK => ?_)
  simp only [List.getElem_toArray, List.getElem_cons_succ, List.getElem_cons_zero]
  go_simp
  refine (Hw.out _).mono ?_
  rintro e9 w9 ⟨rfl, b9⟩
  have hE' := Ext.tr hE b9 (by exact ⟨rfl, rfl, rfl, rfl⟩)
  refine hK _ _ ⟨hE', ?_⟩
  clear hK K hE b9
  have hE := hE'
  clear hE'
  try simp only [Act.put, List.getElem_toArray, List.getElem_cons_succ, List.getElem_cons_zero, List.setIfInBounds_toArray, List.set_cons_zero, List.set_cons_succ]
  -- 8
  refine' wpAnyH_take (i := 8) (v := ?v8) rfl (by kernel_rfl) (by kernel_rfl) (by kernel_rfl) (fun _ _ _ h => h) (Or.inl ⟨by rfl, ?y8⟩) (by first | assumption | exact Ext.eq hE (by exact ⟨rfl, rfl, rfl, rfl⟩)) ?r8
  case y8 => (intro w hSw; (try simp only [List.getElem_toArray, List.getElem_cons_succ, List.getElem_cons_zero]); (try dsimp only at hSw); go_simp; (try (with_reducible rfl)))
  try simp only [Act.put, List.getElem_toArray, List.getElem_cons_succ, List.getElem_cons_zero, List.setIfInBounds_toArray, List.set_cons_zero, List.set_cons_succ]
  -- 9
  refine' wpAnyH_take (i := 9) (v := ?v9) rfl (by kernel_rfl) (by kernel_rfl) (by kernel_rfl) (fun _ _ _ h => h) (Or.inl ⟨by rfl, ?y9⟩) (by first | assumption | exact Ext.eq hE (by exact ⟨rfl, rfl, rfl, rfl⟩)) ?r9
  case y9 => (intro w hSw; (try simp only [List.getElem_toArray, List.getElem_cons_succ, List.getElem_cons_zero]); (try dsimp only at hSw); go_simp; (try (with_reducible rfl)))
  try simp only [Act.put, List.getElem_toArray, List.getElem_cons_succ, List.getElem_cons_zero, List.setIfInBounds_toArray, List.set_cons_zero, List.set_cons_succ]
  -- 10
  refine' wpAnyH_take (i := 10) (v := ?v10) rfl (by kernel_rfl) (by kernel_rfl) (by kernel_rfl) (fun _ _ _ h => h) (Or.inl ⟨by rfl, ?y10⟩) (by first | assumption | exact Ext.eq hE (by exact ⟨rfl, rfl, rfl, rfl⟩)) ?r10
  case y10 => (intro w hSw; (try simp only [List.getElem_toArray, List.getElem_cons_succ, List.getElem_cons_zero]); (try dsimp only at hSw); go_simp; (try (with_reducible rfl)))
  try simp only [Act.put, List.getElem_toArray, List.getElem_cons_succ, List.getElem_cons_zero, List.setIfInBounds_toArray, List.set_cons_zero, List.set_cons_succ]
  -- 11
  refine' wpAnyH_take (i := 11) (v := ?v11) rfl (by kernel_rfl) (by kernel_rfl) (by kernel_rfl) (fun _ _ _ h => h) (Or.inl ⟨by rfl, ?y11⟩) (by first | assumption | exact Ext.eq hE (by exact ⟨rfl, rfl, rfl, rfl⟩)) ?r11
  case y11 => (intro w hSw; (try simp only [List.getElem_toArray, List.getElem_cons_succ, List.getElem_cons_zero]); (try dsimp only at hSw); go_simp; (try (with_reducible rfl)))
  try simp only [Act.put, List.getElem_toArray, List.getElem_cons_succ, List.getElem_cons_zero, List.setIfInBounds_toArray, List.set_cons_zero, List.set_cons_succ]
  -- 12
  refine' wpAnyH_take (i := 12) (v := ?v12) rfl (by kernel_rfl) (by kernel_rfl) (by kernel_rfl) (fun _ _ _ h => h) (Or.inl ⟨by rfl, ?y12⟩) (by first | assumption | exact Ext.eq hE (by exact ⟨rfl, rfl, rfl, rfl⟩)) ?r12
  case y12 => (intro w hSw; (try simp only [List.getElem_toArray, List.getElem_cons_succ, List.getElem_cons_zero]); (try dsimp only at hSw); go_simp; (try (with_reducible rfl)))
  try simp only [Act.put, List.getElem_toArray, List.getElem_cons_succ, List.getElem_cons_zero, List.setIfInBounds_toArray, List.set_cons_zero, List.set_cons_succ]
  -- 13
  refine' wpAnyH_take (i := 13) (v := ?v13) rfl (by kernel_rfl) (by kernel_rfl) (by kernel_rfl) (fun _ _ _ h => h) (Or.inl ⟨by rfl, ?y13⟩) (by first | assumption | exact Ext.eq hE (by exact ⟨rfl, rfl, rfl, rfl⟩)) ?r13
  case y13 => (intro w hSw; (try simp only [List.getElem_toArray, List.getElem_cons_succ, List.getElem_cons_zero]); (try dsimp only at hSw); go_simp; (try (with_reducible rfl)))
  try simp only [Act.put, List.getElem_toArray, List.getElem_cons_succ, List.getElem_cons_zero, List.setIfInBounds_toArray, List.set_cons_zero, List.set_cons_succ]
  -- 14 passed over
  refine wpAnyH_take (i := 14) (v := undef) rfl (by kernel_rfl) (by kernel_rfl) (by kernel_rfl) (fun _ _ _ h => h) (Or.inr ⟨by rfl, rfl⟩) (by first | assumption | exact Ext.eq hE (by exact ⟨rfl, rfl, rfl, rfl⟩)) ?_
  try simp only [Act.put, List.getElem_toArray, List.getElem_cons_succ, List.getElem_cons_zero, List.setIfInBounds_toArray, List.set_cons_zero, List.set_cons_succ]
  -- 15 passed over
  refine wpAnyH_take (i := 15) (v := undef) rfl (by kernel_rfl) (by kernel_rfl) (by kernel_rfl) (fun _ _ _ h => h) (Or.inr ⟨by rfl, rfl⟩) (by first | assumption | exact Ext.eq hE (by exact ⟨rfl, rfl, rfl, rfl⟩)) ?_
  try simp only [Act.put, List.getElem_toArray, List.getElem_cons_succ, List.getElem_cons_zero, List.setIfInBounds_toArray, List.set_cons_zero, List.set_cons_succ]
  -- 16 passed over
  refine wpAnyH_take (i := 16) (v := undef) rfl (by kernel_rfl) (by kernel_rfl) (by kernel_rfl) (fun _ _ _ h => h) (Or.inr ⟨by rfl, rfl⟩) (by first | assumption | exact Ext.eq hE (by exact ⟨rfl, rfl, rfl, rfl⟩)) ?_
  try simp only [Act.put, List.getElem_toArray, List.getElem_cons_succ, List.getElem_cons_zero, List.setIfInBounds_toArray, List.set_cons_zero, List.set_cons_succ]
  -- 17
  refine' wpAnyH_take (i := 17) (v := ?v17) rfl (by kernel_rfl) (by kernel_rfl) (by kernel_rfl) (fun _ _ _ h => h) (Or.inl ⟨by rfl, ?y17⟩) (by first | assumption | exact Ext.eq hE (by exact ⟨rfl, rfl, rfl, rfl⟩)) ?r17
  case y17 => (intro w hSw; (try simp only [List.getElem_toArray, List.getElem_cons_succ, List.getElem_cons_zero]); (try dsimp only at hSw); go_simp; (try (with_reducible rfl)))
  try simp only [Act.put, List.getElem_toArray, List.getElem_cons_succ, List.getElem_cons_zero, List.setIfInBounds_toArray, List.set_cons_zero, List.set_cons_succ]
  -- 18
  refine' wpAnyH_take (i := 18) (v := ?v18) rfl (by kernel_rfl) (by kernel_rfl) (by kernel_rfl) (fun _ _ _ h => h) (Or.inl ⟨by rfl, ?y18⟩) (by first | assumption | exact Ext.eq hE (by exact ⟨rfl, rfl, rfl, rfl⟩)) ?r18
  case y18 => (intro w hSw; (try simp only [List.getElem_toArray, List.getElem_cons_succ, List.getElem_cons_zero]); (try dsimp only at hSw); go_simp; (try (with_reducible rfl)))
  try simp only [Act.put, List.getElem_toArray, List.getElem_cons_succ, List.getElem_cons_zero, List.setIfInBounds_toArray, List.set_cons_zero, List.set_cons_succ]
  -- 19
  refine' wpAnyH_take (i := 19) (v := ?v19) rfl (by kernel_rfl) (by kernel_rfl) (by kernel_rfl) (fun _ _ _ h => h) (Or.inl ⟨by rfl, ?y19⟩) (by first | assumption | exact Ext.eq hE (by exact ⟨rfl, rfl, rfl, rfl⟩)) ?r19
  case y19 => (intro w hSw; (try simp only [List.getElem_toArray, List.getElem_cons_succ, List.getElem_cons_zero]); (try dsimp only at hSw); go_simp; (try (with_reducible rfl)))
  try simp only [Act.put, List.getElem_toArray, List.getElem_cons_succ, List.getElem_cons_zero, List.setIfInBounds_toArray, List.set_cons_zero, List.set_cons_succ]
  refine wpAnyH_done (by kernel_rfl) ?_ _
  refine NoPanic.normal ?_
  go_wp2
  go_ret
  exact ⟨rfl, below_tr B1 (by first | exact hE | exact Ext.eq hE ⟨rfl, rfl, rfl, rfl⟩)⟩

set_option maxHeartbeats 4000000 in
theorem isaReads_410 (op d a imm : Int) (w : World) (ha : 0 < a) (hr : rightB ⟨op, d, a, 0, imm⟩ = true) (hf : form op = 4) (hl : readsL ⟨op, d, a, 0, imm⟩ = [a]) :
    Calls Try.prog 9 #[.agg #[.int .i64 op, .int .i64 d, .int .i64 a, .int .i64 0, .int .i64 imm]] w fun e w' => e = .returned (.bool true) ∧ Below w.heap.size w w' := by
  have Hs := hid (fun w => reads_any ⟨op, d, a, 0, imm⟩ w)
  have Hr := hid (fun w => refRight_any ⟨op, d, a, 0, imm⟩ w)
  have Hw := hid (fun w => writes_any ⟨op, d, a, 0, imm⟩ w)
  have Hf := hid (fun w => form_any op w)
  rw [hl] at Hs
  rw [writes_d ⟨op, d, a, 0, imm⟩ hr] at Hw
  rw [hr] at Hr
  rw [hf] at Hf
  simp only [Ins.val] at Hs Hr Hw
  clear hr hf hl
  go_enter Try.func9, Try.ntmps9
  go_wp2_with fail
  refine (alive2_any _).mono ?_
  rintro e9 w1 ⟨rfl, b1⟩
  have x1 := (BoxI.new w op d a 0 imm 23).below b1
  have B1 := below_tr (below_al (Below.refl _ _) _) b1
  obtain ⟨kx0, kx1, kx2, kx3, kx4⟩ := x1.ext
  have hE : Ext w1 w1 := Ext.refl w1
  have hA : ∀ o, Ext w1 (w1.alloc o) := fun o => below_al hE o
  clear b1 x1
  go_wp2_with fail
  refine (Hs.out _).mono ?_
  rintro e9 w9 ⟨v9, rfl, o9, b9⟩
  obtain ⟨A9, c9, e9, r9, q9⟩ := own_rd o9
  subst e9
  have hE' := Ext.tr hE b9 (by exact ⟨rfl, rfl, rfl, rfl⟩)
  clear hE b9 hA o9
  have hE := hE'
  clear hE'
  go_wp2_with fail
  refine (Hr.out _).mono ?_
  rintro e9 w2 ⟨rfl, b9⟩
  replace r9 := r9.below b9
  have hE' := Ext.tr hE b9 (by exact ⟨rfl, rfl, rfl, rfl⟩)
  clear hE b9
  have hE := hE'
  clear hE'
  go_wp2_with fail
  refine (Hf.out _).mono ?_
  rintro e9 w9 ⟨rfl, rfl⟩
  have hA : ∀ o, Ext w1 (w2.alloc o) := fun o => below_al hE o
  go_wp2_with (at_builtin; refine wpl_append w2.heap.size rfl 33 3 (.int .i64 0) 1 8 Try.underlying33 (by kernel_rfl) rfl (by omega) (by omega) _ 0 [] (own_nil _ _ _ _) (some ⟨w2.heap.size, 0, none⟩) 1 1 [.int .i64 a] rfl (rd_new _ _ _) (by simp) (one_cell _) (by omega) (by simp) ?_)
  intro v3 w3 o3 g3 b3
  have k3 : Below w2.heap.size w2 w3 := (below_al (Below.refl _ _) _).grown g3 (by simp) (by intro k hk; simp [Value.ownBlock] at hk)
  replace r9 := r9.below k3
  have hE' := Ext.tr hE k3 (by exact ⟨rfl, rfl, rfl, rfl⟩)
  clear hE hA g3 b3
  have hE := hE'
  clear hE'
  obtain ⟨A3, c3, e3, r3, q3⟩ := own_rd o3
  subst e3
  clear o3
  go_wp2_with fail
  have hS : ∀ W, Eqw W w3 → Calls Try.prog 19 #[.slice A9 1 c9, .slice A3 1 c3] W fun e w' => e = .returned (.bool true) ∧ Drw W w' := fun W hW => same_eq [a] 1 rfl A9 A3 c9 c3 W (by omega) (r9.eqw hW) (r3.eqw hW)
  have HS := hid hS
  clear hS r9 r3
  refine wp_region_held_np (S := fun W => Ext w1 W) 20 rfl (by kernel_rfl) ?_
  -- 0
  refine' wpAnyH_take (i := 0) (v := ?v0) rfl (by kernel_rfl) (by kernel_rfl) (by kernel_rfl) (fun _ _ _ h => h) (Or.inl ⟨by rfl, ?y0⟩) (by first | assumption | exact Ext.eq hE (by exact ⟨rfl, rfl, rfl, rfl⟩)) ?r0
  case y0 => (intro w hSw; (try simp only [List.getElem_toArray, List.getElem_cons_succ, List.getElem_cons_zero]); (try dsimp only at hSw); go_simp; (try (with_reducible rfl)))
  try simp only [Act.put, List.getElem_toArray, List.getElem_cons_succ, List.getElem_cons_zero, List.setIfInBounds_toArray, List.set_cons_zero, List.set_cons_succ]
  -- 1
  refine' wpAnyH_take (i := 1) (v := ?v1) rfl (by kernel_rfl) (by kernel_rfl) (by kernel_rfl) (fun _ _ _ h => h) (Or.inl ⟨by rfl, ?y1⟩) (by first | assumption | exact Ext.eq hE (by exact ⟨rfl, rfl, rfl, rfl⟩)) ?r1
  case y1 => (intro w hSw; (try simp only [List.getElem_toArray, List.getElem_cons_succ, List.getElem_cons_zero]); (try dsimp only at hSw); go_simp; (try (with_reducible rfl)))
  try simp only [Act.put, List.getElem_toArray, List.getElem_cons_succ, List.getElem_cons_zero, List.setIfInBounds_toArray, List.set_cons_zero, List.set_cons_succ]
  -- effect 2
  refine wpAnyH_all (rs := [2]) (by kernel_rfl) (by simp) ?_
  intro i0 hi0
  obtain rfl : i0 = 2 := by simpa using hi0
  clear hi0
  refine wpOp_do rfl (by rfl) (fun K hK => ?_)
  simp only [List.getElem_toArray, List.getElem_cons_succ, List.getElem_cons_zero]
  go_simp
  refine (HS.out _ (by exact ⟨rfl, rfl, rfl, rfl⟩)).mono ?_
  rintro e9 w9 ⟨rfl, n9, rfl⟩
  refine hK _ _ ⟨Ext.eq hE (by exact ⟨rfl, rfl, rfl, rfl⟩), ?_⟩
  clear hK K
  try simp only [Act.put, List.getElem_toArray, List.getElem_cons_succ, List.getElem_cons_zero, List.setIfInBounds_toArray, List.set_cons_zero, List.set_cons_succ]
  -- 3
  refine' wpAnyH_take (i := 3) (v := ?v3) rfl (by kernel_rfl) (by kernel_rfl) (by kernel_rfl) (fun _ _ _ h => h) (Or.inl ⟨by rfl, ?y3⟩) (by first | assumption | exact Ext.eq hE (by exact ⟨rfl, rfl, rfl, rfl⟩)) ?r3
  case y3 => (intro w hSw; (try simp only [List.getElem_toArray, List.getElem_cons_succ, List.getElem_cons_zero]); (try dsimp only at hSw); go_simp; (try (with_reducible rfl)))
  try simp only [Act.put, List.getElem_toArray, List.getElem_cons_succ, List.getElem_cons_zero, List.setIfInBounds_toArray, List.set_cons_zero, List.set_cons_succ]
  -- 4
  refine' wpAnyH_take (i := 4) (v := ?v4) rfl (by kernel_rfl) (by kernel_rfl) (by kernel_rfl) (fun _ _ _ h => h) (Or.inl ⟨by rfl, ?y4⟩) (by first | assumption | exact Ext.eq hE (by exact ⟨rfl, rfl, rfl, rfl⟩)) ?r4
  case y4 => (intro w hSw; (try simp only [List.getElem_toArray, List.getElem_cons_succ, List.getElem_cons_zero]); (try dsimp only at hSw); go_simp; (try (with_reducible rfl)))
  try simp only [Act.put, List.getElem_toArray, List.getElem_cons_succ, List.getElem_cons_zero, List.setIfInBounds_toArray, List.set_cons_zero, List.set_cons_succ]
  -- 6
  refine' wpAnyH_take (i := 6) (v := ?v6) rfl (by kernel_rfl) (by kernel_rfl) (by kernel_rfl) (fun _ _ _ h => h) (Or.inl ⟨by rfl, ?y6⟩) (by first | assumption | exact Ext.eq hE (by exact ⟨rfl, rfl, rfl, rfl⟩)) ?r6
  case y6 => (intro w hSw; (try simp only [List.getElem_toArray, List.getElem_cons_succ, List.getElem_cons_zero]); (try dsimp only at hSw); go_simp; (try (with_reducible rfl)))
  try simp only [Act.put, List.getElem_toArray, List.getElem_cons_succ, List.getElem_cons_zero, List.setIfInBounds_toArray, List.set_cons_zero, List.set_cons_succ]
  -- 7
  refine' wpAnyH_take (i := 7) (v := ?v7) rfl (by kernel_rfl) (by kernel_rfl) (by kernel_rfl) (fun _ _ _ h => h) (Or.inl ⟨by rfl, ?y7⟩) (by first | assumption | exact Ext.eq hE (by exact ⟨rfl, rfl, rfl, rfl⟩)) ?r7
  case y7 => (intro w hSw; (try simp only [List.getElem_toArray, List.getElem_cons_succ, List.getElem_cons_zero]); (try dsimp only at hSw); go_simp; (try (with_reducible rfl)))
  try simp only [Act.put, List.getElem_toArray, List.getElem_cons_succ, List.getElem_cons_zero, List.setIfInBounds_toArray, List.set_cons_zero, List.set_cons_succ]
  -- effect 5
  refine wpAnyH_all (rs := [5]) (by kernel_rfl) (by simp) ?_
  intro i0 hi0
  obtain rfl : i0 = 5 := by simpa using hi0
  clear hi0
  refine wpOp_do rfl (by rfl) (fun K hK => ?_)
  simp only [List.getElem_toArray, List.getElem_cons_succ, List.getElem_cons_zero]
  go_simp
  refine (Hw.out _).mono ?_
  rintro e9 w9 ⟨rfl, b9⟩
  have hE' := Ext.tr hE b9 (by exact ⟨rfl, rfl, rfl, rfl⟩)
  refine hK _ _ ⟨hE', ?_⟩
  clear hK K hE b9
  have hE := hE'
  clear hE'
  try simp only [Act.put, List.getElem_toArray, List.getElem_cons_succ, List.getElem_cons_zero, List.setIfInBounds_toArray, List.set_cons_zero, List.set_cons_succ]
  -- 8
  refine' wpAnyH_take (i := 8) (v := ?v8) rfl (by kernel_rfl) (by kernel_rfl) (by kernel_rfl) (fun _ _ _ h => h) (Or.inl ⟨by rfl, ?y8⟩) (by first | assumption | exact Ext.eq hE (by exact ⟨rfl, rfl, rfl, rfl⟩)) ?r8
  case y8 => (intro w hSw; (try simp only [List.getElem_toArray, List.getElem_cons_succ, List.getElem_cons_zero]); (try dsimp only at hSw); go_simp; (try (with_reducible rfl)))
  try simp only [Act.put, List.getElem_toArray, List.getElem_cons_succ, List.getElem_cons_zero, List.setIfInBounds_toArray, List.set_cons_zero, List.set_cons_succ]
  -- 9
  refine' wpAnyH_take (i := 9) (v := ?v9) rfl (by kernel_rfl) (by kernel_rfl) (by kernel_rfl) (fun _ _ _ h => h) (Or.inl ⟨by rfl, ?y9⟩) (by first | assumption | exact Ext.eq hE (by exact ⟨rfl, rfl, rfl, rfl⟩)) ?r9
  case y9 => (intro w hSw; (try simp only [List.getElem_toArray, List.getElem_cons_succ, List.getElem_cons_zero]); (try dsimp only at hSw); go_simp; (try (with_reducible rfl)))
  try simp only [Act.put, List.getElem_toArray, List.getElem_cons_succ, List.getElem_cons_zero, List.setIfInBounds_toArray, List.set_cons_zero, List.set_cons_succ]
  -- 10
  refine' wpAnyH_take (i := 10) (v := ?v10) rfl (by kernel_rfl) (by kernel_rfl) (by kernel_rfl) (fun _ _ _ h => h) (Or.inl ⟨by rfl, ?y10⟩) (by first | assumption | exact Ext.eq hE (by exact ⟨rfl, rfl, rfl, rfl⟩)) ?r10
  case y10 => (intro w hSw; (try simp only [List.getElem_toArray, List.getElem_cons_succ, List.getElem_cons_zero]); (try dsimp only at hSw); go_simp; (try (with_reducible rfl)))
  try simp only [Act.put, List.getElem_toArray, List.getElem_cons_succ, List.getElem_cons_zero, List.setIfInBounds_toArray, List.set_cons_zero, List.set_cons_succ]
  -- 11
  refine' wpAnyH_take (i := 11) (v := ?v11) rfl (by kernel_rfl) (by kernel_rfl) (by kernel_rfl) (fun _ _ _ h => h) (Or.inl ⟨by rfl, ?y11⟩) (by first | assumption | exact Ext.eq hE (by exact ⟨rfl, rfl, rfl, rfl⟩)) ?r11
  case y11 => (intro w hSw; (try simp only [List.getElem_toArray, List.getElem_cons_succ, List.getElem_cons_zero]); (try dsimp only at hSw); go_simp; (try (with_reducible rfl)))
  try simp only [Act.put, List.getElem_toArray, List.getElem_cons_succ, List.getElem_cons_zero, List.setIfInBounds_toArray, List.set_cons_zero, List.set_cons_succ]
  -- 12
  refine' wpAnyH_take (i := 12) (v := ?v12) rfl (by kernel_rfl) (by kernel_rfl) (by kernel_rfl) (fun _ _ _ h => h) (Or.inl ⟨by rfl, ?y12⟩) (by first | assumption | exact Ext.eq hE (by exact ⟨rfl, rfl, rfl, rfl⟩)) ?r12
  case y12 => (intro w hSw; (try simp only [List.getElem_toArray, List.getElem_cons_succ, List.getElem_cons_zero]); (try dsimp only at hSw); go_simp; (try (with_reducible rfl)))
  try simp only [Act.put, List.getElem_toArray, List.getElem_cons_succ, List.getElem_cons_zero, List.setIfInBounds_toArray, List.set_cons_zero, List.set_cons_succ]
  -- 13
  refine' wpAnyH_take (i := 13) (v := ?v13) rfl (by kernel_rfl) (by kernel_rfl) (by kernel_rfl) (fun _ _ _ h => h) (Or.inl ⟨by rfl, ?y13⟩) (by first | assumption | exact Ext.eq hE (by exact ⟨rfl, rfl, rfl, rfl⟩)) ?r13
  case y13 => (intro w hSw; (try simp only [List.getElem_toArray, List.getElem_cons_succ, List.getElem_cons_zero]); (try dsimp only at hSw); go_simp; (try (with_reducible rfl)))
  try simp only [Act.put, List.getElem_toArray, List.getElem_cons_succ, List.getElem_cons_zero, List.setIfInBounds_toArray, List.set_cons_zero, List.set_cons_succ]
  -- 14 passed over
  refine wpAnyH_take (i := 14) (v := undef) rfl (by kernel_rfl) (by kernel_rfl) (by kernel_rfl) (fun _ _ _ h => h) (Or.inr ⟨by rfl, rfl⟩) (by first | assumption | exact Ext.eq hE (by exact ⟨rfl, rfl, rfl, rfl⟩)) ?_
  try simp only [Act.put, List.getElem_toArray, List.getElem_cons_succ, List.getElem_cons_zero, List.setIfInBounds_toArray, List.set_cons_zero, List.set_cons_succ]
  -- 15 passed over
  refine wpAnyH_take (i := 15) (v := undef) rfl (by kernel_rfl) (by kernel_rfl) (by kernel_rfl) (fun _ _ _ h => h) (Or.inr ⟨by rfl, rfl⟩) (by first | assumption | exact Ext.eq hE (by exact ⟨rfl, rfl, rfl, rfl⟩)) ?_
  try simp only [Act.put, List.getElem_toArray, List.getElem_cons_succ, List.getElem_cons_zero, List.setIfInBounds_toArray, List.set_cons_zero, List.set_cons_succ]
  -- 16 passed over
  refine wpAnyH_take (i := 16) (v := undef) rfl (by kernel_rfl) (by kernel_rfl) (by kernel_rfl) (fun _ _ _ h => h) (Or.inr ⟨by rfl, rfl⟩) (by first | assumption | exact Ext.eq hE (by exact ⟨rfl, rfl, rfl, rfl⟩)) ?_
  try simp only [Act.put, List.getElem_toArray, List.getElem_cons_succ, List.getElem_cons_zero, List.setIfInBounds_toArray, List.set_cons_zero, List.set_cons_succ]
  -- 17
  refine' wpAnyH_take (i := 17) (v := ?v17) rfl (by kernel_rfl) (by kernel_rfl) (by kernel_rfl) (fun _ _ _ h => h) (Or.inl ⟨by rfl, ?y17⟩) (by first | assumption | exact Ext.eq hE (by exact ⟨rfl, rfl, rfl, rfl⟩)) ?r17
  case y17 => (intro w hSw; (try simp only [List.getElem_toArray, List.getElem_cons_succ, List.getElem_cons_zero]); (try dsimp only at hSw); go_simp; (try (with_reducible rfl)))
  try simp only [Act.put, List.getElem_toArray, List.getElem_cons_succ, List.getElem_cons_zero, List.setIfInBounds_toArray, List.set_cons_zero, List.set_cons_succ]
  -- 18
  refine' wpAnyH_take (i := 18) (v := ?v18) rfl (by kernel_rfl) (by kernel_rfl) (by kernel_rfl) (fun _ _ _ h => h) (Or.inl ⟨by rfl, ?y18⟩) (by first | assumption | exact Ext.eq hE (by exact ⟨rfl, rfl, rfl, rfl⟩)) ?r18
  case y18 => (intro w hSw; (try simp only [List.getElem_toArray, List.getElem_cons_succ, List.getElem_cons_zero]); (try dsimp only at hSw); go_simp; (try (with_reducible rfl)))
  try simp only [Act.put, List.getElem_toArray, List.getElem_cons_succ, List.getElem_cons_zero, List.setIfInBounds_toArray, List.set_cons_zero, List.set_cons_succ]
  -- 19
  refine' wpAnyH_take (i := 19) (v := ?v19) rfl (by kernel_rfl) (by kernel_rfl) (by kernel_rfl) (fun _ _ _ h => h) (Or.inl ⟨by rfl, ?y19⟩) (by first | assumption | exact Ext.eq hE (by exact ⟨rfl, rfl, rfl, rfl⟩)) ?r19
  case y19 => (intro w hSw; (try simp only [List.getElem_toArray, List.getElem_cons_succ, List.getElem_cons_zero]); (try dsimp only at hSw); go_simp; (try (with_reducible rfl)))
  try simp only [Act.put, List.getElem_toArray, List.getElem_cons_succ, List.getElem_cons_zero, List.setIfInBounds_toArray, List.set_cons_zero, List.set_cons_succ]
  refine wpAnyH_done (by kernel_rfl) ?_ _
  refine NoPanic.normal ?_
  go_wp2
  go_ret
  exact ⟨rfl, below_tr B1 (by first | exact hE | exact Ext.eq hE ⟨rfl, rfl, rfl, rfl⟩)⟩

set_option maxHeartbeats 4000000 in
theorem isaReads_500 (op imm : Int) (w : World) (hr : rightB ⟨op, 0, 0, 0, imm⟩ = true) (hf : form op = 5) (hl : readsL ⟨op, 0, 0, 0, imm⟩ = []) :
    Calls Try.prog 9 #[.agg #[.int .i64 op, .int .i64 0, .int .i64 0, .int .i64 0, .int .i64 imm]] w fun e w' => e = .returned (.bool true) ∧ Below w.heap.size w w' := by
  have Hs := hid (fun w => reads_any ⟨op, 0, 0, 0, imm⟩ w)
  have Hr := hid (fun w => refRight_any ⟨op, 0, 0, 0, imm⟩ w)
  have Hw := hid (fun w => writes_any ⟨op, 0, 0, 0, imm⟩ w)
  have Hf := hid (fun w => form_any op w)
  rw [hl] at Hs
  rw [writes_d ⟨op, 0, 0, 0, imm⟩ hr] at Hw
  rw [hr] at Hr
  rw [hf] at Hf
  simp only [Ins.val] at Hs Hr Hw
  clear hr hf hl
  go_enter Try.func9, Try.ntmps9
  go_wp2_with fail
  refine (alive2_any _).mono ?_
  rintro e9 w1 ⟨rfl, b1⟩
  have x1 := (BoxI.new w op 0 0 0 imm 23).below b1
  have B1 := below_tr (below_al (Below.refl _ _) _) b1
  obtain ⟨kx0, kx1, kx2, kx3, kx4⟩ := x1.ext
  have hE : Ext w1 w1 := Ext.refl w1
  have hA : ∀ o, Ext w1 (w1.alloc o) := fun o => below_al hE o
  clear b1 x1
  go_wp2_with fail
  refine (Hs.out _).mono ?_
  rintro e9 w9 ⟨v9, rfl, o9, b9⟩
  obtain ⟨A9, c9, e9, r9, q9⟩ := own_rd o9
  subst e9
  have hE' := Ext.tr hE b9 (by exact ⟨rfl, rfl, rfl, rfl⟩)
  clear hE b9 hA o9
  have hE := hE'
  clear hE'
  go_wp2_with fail
  refine (Hr.out _).mono ?_
  rintro e9 w2 ⟨rfl, b9⟩
  replace r9 := r9.below b9
  have hE' := Ext.tr hE b9 (by exact ⟨rfl, rfl, rfl, rfl⟩)
  clear hE b9
  have hE := hE'
  clear hE'
  go_wp2_with fail
  refine (Hf.out _).mono ?_
  rintro e9 w9 ⟨rfl, rfl⟩
  have hA : ∀ o, Ext w1 (w2.alloc o) := fun o => below_al hE o
  clear hA
  go_wp2_with fail
  have hS : ∀ W, Eqw W w2 → Calls Try.prog 19 #[.slice A9 0 c9, .slice none 0 0] W fun e w' => e = .returned (.bool true) ∧ Drw W w' := fun W hW => same_eq [] 0 rfl A9 none c9 0 W (by omega) (r9.eqw hW) (Rd.nil _ _)
  have HS := hid hS
  clear hS r9
  refine wp_region_held_np (S := fun W => Ext w1 W) 20 rfl (by kernel_rfl) ?_
  -- 0
  refine' wpAnyH_take (i := 0) (v := ?v0) rfl (by kernel_rfl) (by kernel_rfl) (by kernel_rfl) (fun _ _ _ h => h) (Or.inl ⟨by rfl, ?y0⟩) (by first | assumption | exact Ext.eq hE (by exact ⟨rfl, rfl, rfl, rfl⟩)) ?r0
  case y0 => (intro w hSw; (try simp only [List.getElem_toArray, List.getElem_cons_succ, List.getElem_cons_zero]); (try dsimp only at hSw); go_simp; (try (with_reducible rfl)))
  try simp only [Act.put, List.getElem_toArray, List.getElem_cons_succ, List.getElem_cons_zero, List.setIfInBounds_toArray, List.set_cons_zero, List.set_cons_succ]
  -- 1
  refine' wpAnyH_take (i := 1) (v := ?v1) rfl (by kernel_rfl) (by kernel_rfl) (by kernel_rfl) (fun _ _ _ h => h) (Or.inl ⟨by rfl, ?y1⟩) (by first | assumption | exact Ext.eq hE (by exact ⟨rfl, rfl, rfl, rfl⟩)) ?r1
  case y1 => (intro w hSw; (try simp only [List.getElem_toArray, List.getElem_cons_succ, List.getElem_cons_zero]); (try dsimp only at hSw); go_simp; (try (with_reducible rfl)))
  try simp only [Act.put, List.getElem_toArray, List.getElem_cons_succ, List.getElem_cons_zero, List.setIfInBounds_toArray, List.set_cons_zero, List.set_cons_succ]
  -- effect 2
  refine wpAnyH_all (rs := [2]) (by kernel_rfl) (by simp) ?_
  intro i0 hi0
  obtain rfl : i0 = 2 := by simpa using hi0
  clear hi0
  refine wpOp_do rfl (by rfl) (fun K hK => ?_)
  simp only [List.getElem_toArray, List.getElem_cons_succ, List.getElem_cons_zero]
  go_simp
  refine (HS.out _ (by exact ⟨rfl, rfl, rfl, rfl⟩)).mono ?_
  rintro e9 w9 ⟨rfl, n9, rfl⟩
  refine hK _ _ ⟨Ext.eq hE (by exact ⟨rfl, rfl, rfl, rfl⟩), ?_⟩
  clear hK K
  try simp only [Act.put, List.getElem_toArray, List.getElem_cons_succ, List.getElem_cons_zero, List.setIfInBounds_toArray, List.set_cons_zero, List.set_cons_succ]
  -- 3
  refine' wpAnyH_take (i := 3) (v := ?v3) rfl (by kernel_rfl) (by kernel_rfl) (by kernel_rfl) (fun _ _ _ h => h) (Or.inl ⟨by rfl, ?y3⟩) (by first | assumption | exact Ext.eq hE (by exact ⟨rfl, rfl, rfl, rfl⟩)) ?r3
  case y3 => (intro w hSw; (try simp only [List.getElem_toArray, List.getElem_cons_succ, List.getElem_cons_zero]); (try dsimp only at hSw); go_simp; (try (with_reducible rfl)))
  try simp only [Act.put, List.getElem_toArray, List.getElem_cons_succ, List.getElem_cons_zero, List.setIfInBounds_toArray, List.set_cons_zero, List.set_cons_succ]
  -- 4
  refine' wpAnyH_take (i := 4) (v := ?v4) rfl (by kernel_rfl) (by kernel_rfl) (by kernel_rfl) (fun _ _ _ h => h) (Or.inl ⟨by rfl, ?y4⟩) (by first | assumption | exact Ext.eq hE (by exact ⟨rfl, rfl, rfl, rfl⟩)) ?r4
  case y4 => (intro w hSw; (try simp only [List.getElem_toArray, List.getElem_cons_succ, List.getElem_cons_zero]); (try dsimp only at hSw); go_simp; (try (with_reducible rfl)))
  try simp only [Act.put, List.getElem_toArray, List.getElem_cons_succ, List.getElem_cons_zero, List.setIfInBounds_toArray, List.set_cons_zero, List.set_cons_succ]
  -- 6
  refine' wpAnyH_take (i := 6) (v := ?v6) rfl (by kernel_rfl) (by kernel_rfl) (by kernel_rfl) (fun _ _ _ h => h) (Or.inl ⟨by rfl, ?y6⟩) (by first | assumption | exact Ext.eq hE (by exact ⟨rfl, rfl, rfl, rfl⟩)) ?r6
  case y6 => (intro w hSw; (try simp only [List.getElem_toArray, List.getElem_cons_succ, List.getElem_cons_zero]); (try dsimp only at hSw); go_simp; (try (with_reducible rfl)))
  try simp only [Act.put, List.getElem_toArray, List.getElem_cons_succ, List.getElem_cons_zero, List.setIfInBounds_toArray, List.set_cons_zero, List.set_cons_succ]
  -- 7
  refine' wpAnyH_take (i := 7) (v := ?v7) rfl (by kernel_rfl) (by kernel_rfl) (by kernel_rfl) (fun _ _ _ h => h) (Or.inl ⟨by rfl, ?y7⟩) (by first | assumption | exact Ext.eq hE (by exact ⟨rfl, rfl, rfl, rfl⟩)) ?r7
  case y7 => (intro w hSw; (try simp only [List.getElem_toArray, List.getElem_cons_succ, List.getElem_cons_zero]); (try dsimp only at hSw); go_simp; (try (with_reducible rfl)))
  try simp only [Act.put, List.getElem_toArray, List.getElem_cons_succ, List.getElem_cons_zero, List.setIfInBounds_toArray, List.set_cons_zero, List.set_cons_succ]
  -- effect 5
  refine wpAnyH_all (rs := [5]) (by kernel_rfl) (by simp) ?_
  intro i0 hi0
  obtain rfl : i0 = 5 := by simpa using hi0
  clear hi0
  refine wpOp_do rfl (by rfl) (fun K hK => ?_)
  simp only [List.getElem_toArray, List.getElem_cons_succ, List.getElem_cons_zero]
  go_simp
  refine (Hw.out _).mono ?_
  rintro e9 w9 ⟨rfl, b9⟩
  have hE' := Ext.tr hE b9 (by exact ⟨rfl, rfl, rfl, rfl⟩)
  refine hK _ _ ⟨hE', ?_⟩
  clear hK K hE b9
  have hE := hE'
  clear hE'
  try simp only [Act.put, List.getElem_toArray, List.getElem_cons_succ, List.getElem_cons_zero, List.setIfInBounds_toArray, List.set_cons_zero, List.set_cons_succ]
  -- 8
  refine' wpAnyH_take (i := 8) (v := ?v8) rfl (by kernel_rfl) (by kernel_rfl) (by kernel_rfl) (fun _ _ _ h => h) (Or.inl ⟨by rfl, ?y8⟩) (by first | assumption | exact Ext.eq hE (by exact ⟨rfl, rfl, rfl, rfl⟩)) ?r8
  case y8 => (intro w hSw; (try simp only [List.getElem_toArray, List.getElem_cons_succ, List.getElem_cons_zero]); (try dsimp only at hSw); go_simp; (try (with_reducible rfl)))
  try simp only [Act.put, List.getElem_toArray, List.getElem_cons_succ, List.getElem_cons_zero, List.setIfInBounds_toArray, List.set_cons_zero, List.set_cons_succ]
  -- 9
  refine' wpAnyH_take (i := 9) (v := ?v9) rfl (by kernel_rfl) (by kernel_rfl) (by kernel_rfl) (fun _ _ _ h => h) (Or.inl ⟨by rfl, ?y9⟩) (by first | assumption | exact Ext.eq hE (by exact ⟨rfl, rfl, rfl, rfl⟩)) ?r9
  case y9 => (intro w hSw; (try simp only [List.getElem_toArray, List.getElem_cons_succ, List.getElem_cons_zero]); (try dsimp only at hSw); go_simp; (try (with_reducible rfl)))
  try simp only [Act.put, List.getElem_toArray, List.getElem_cons_succ, List.getElem_cons_zero, List.setIfInBounds_toArray, List.set_cons_zero, List.set_cons_succ]
  -- 10
  refine' wpAnyH_take (i := 10) (v := ?v10) rfl (by kernel_rfl) (by kernel_rfl) (by kernel_rfl) (fun _ _ _ h => h) (Or.inl ⟨by rfl, ?y10⟩) (by first | assumption | exact Ext.eq hE (by exact ⟨rfl, rfl, rfl, rfl⟩)) ?r10
  case y10 => (intro w hSw; (try simp only [List.getElem_toArray, List.getElem_cons_succ, List.getElem_cons_zero]); (try dsimp only at hSw); go_simp; (try (with_reducible rfl)))
  try simp only [Act.put, List.getElem_toArray, List.getElem_cons_succ, List.getElem_cons_zero, List.setIfInBounds_toArray, List.set_cons_zero, List.set_cons_succ]
  -- 11
  refine' wpAnyH_take (i := 11) (v := ?v11) rfl (by kernel_rfl) (by kernel_rfl) (by kernel_rfl) (fun _ _ _ h => h) (Or.inl ⟨by rfl, ?y11⟩) (by first | assumption | exact Ext.eq hE (by exact ⟨rfl, rfl, rfl, rfl⟩)) ?r11
  case y11 => (intro w hSw; (try simp only [List.getElem_toArray, List.getElem_cons_succ, List.getElem_cons_zero]); (try dsimp only at hSw); go_simp; (try (with_reducible rfl)))
  try simp only [Act.put, List.getElem_toArray, List.getElem_cons_succ, List.getElem_cons_zero, List.setIfInBounds_toArray, List.set_cons_zero, List.set_cons_succ]
  -- 12
  refine' wpAnyH_take (i := 12) (v := ?v12) rfl (by kernel_rfl) (by kernel_rfl) (by kernel_rfl) (fun _ _ _ h => h) (Or.inl ⟨by rfl, ?y12⟩) (by first | assumption | exact Ext.eq hE (by exact ⟨rfl, rfl, rfl, rfl⟩)) ?r12
  case y12 => (intro w hSw; (try simp only [List.getElem_toArray, List.getElem_cons_succ, List.getElem_cons_zero]); (try dsimp only at hSw); go_simp; (try (with_reducible rfl)))
  try simp only [Act.put, List.getElem_toArray, List.getElem_cons_succ, List.getElem_cons_zero, List.setIfInBounds_toArray, List.set_cons_zero, List.set_cons_succ]
  -- 13
  refine' wpAnyH_take (i := 13) (v := ?v13) rfl (by kernel_rfl) (by kernel_rfl) (by kernel_rfl) (fun _ _ _ h => h) (Or.inl ⟨by rfl, ?y13⟩) (by first | assumption | exact Ext.eq hE (by exact ⟨rfl, rfl, rfl, rfl⟩)) ?r13
  case y13 => (intro w hSw; (try simp only [List.getElem_toArray, List.getElem_cons_succ, List.getElem_cons_zero]); (try dsimp only at hSw); go_simp; (try (with_reducible rfl)))
  try simp only [Act.put, List.getElem_toArray, List.getElem_cons_succ, List.getElem_cons_zero, List.setIfInBounds_toArray, List.set_cons_zero, List.set_cons_succ]
  -- 14
  refine' wpAnyH_take (i := 14) (v := ?v14) rfl (by kernel_rfl) (by kernel_rfl) (by kernel_rfl) (fun _ _ _ h => h) (Or.inl ⟨by rfl, ?y14⟩) (by first | assumption | exact Ext.eq hE (by exact ⟨rfl, rfl, rfl, rfl⟩)) ?r14
  case y14 => (intro w hSw; (try simp only [List.getElem_toArray, List.getElem_cons_succ, List.getElem_cons_zero]); (try dsimp only at hSw); go_simp; (try (with_reducible rfl)))
  try simp only [Act.put, List.getElem_toArray, List.getElem_cons_succ, List.getElem_cons_zero, List.setIfInBounds_toArray, List.set_cons_zero, List.set_cons_succ]
  -- 15
  refine' wpAnyH_take (i := 15) (v := ?v15) rfl (by kernel_rfl) (by kernel_rfl) (by kernel_rfl) (fun _ _ _ h => h) (Or.inl ⟨by rfl, ?y15⟩) (by first | assumption | exact Ext.eq hE (by exact ⟨rfl, rfl, rfl, rfl⟩)) ?r15
  case y15 => (intro w hSw; (try simp only [List.getElem_toArray, List.getElem_cons_succ, List.getElem_cons_zero]); (try dsimp only at hSw); go_simp; (try (with_reducible rfl)))
  try simp only [Act.put, List.getElem_toArray, List.getElem_cons_succ, List.getElem_cons_zero, List.setIfInBounds_toArray, List.set_cons_zero, List.set_cons_succ]
  -- 16
  refine' wpAnyH_take (i := 16) (v := ?v16) rfl (by kernel_rfl) (by kernel_rfl) (by kernel_rfl) (fun _ _ _ h => h) (Or.inl ⟨by rfl, ?y16⟩) (by first | assumption | exact Ext.eq hE (by exact ⟨rfl, rfl, rfl, rfl⟩)) ?r16
  case y16 => (intro w hSw; (try simp only [List.getElem_toArray, List.getElem_cons_succ, List.getElem_cons_zero]); (try dsimp only at hSw); go_simp; (try (with_reducible rfl)))
  try simp only [Act.put, List.getElem_toArray, List.getElem_cons_succ, List.getElem_cons_zero, List.setIfInBounds_toArray, List.set_cons_zero, List.set_cons_succ]
  -- 17
  refine' wpAnyH_take (i := 17) (v := ?v17) rfl (by kernel_rfl) (by kernel_rfl) (by kernel_rfl) (fun _ _ _ h => h) (Or.inl ⟨by rfl, ?y17⟩) (by first | assumption | exact Ext.eq hE (by exact ⟨rfl, rfl, rfl, rfl⟩)) ?r17
  case y17 => (intro w hSw; (try simp only [List.getElem_toArray, List.getElem_cons_succ, List.getElem_cons_zero]); (try dsimp only at hSw); go_simp; (try (with_reducible rfl)))
  try simp only [Act.put, List.getElem_toArray, List.getElem_cons_succ, List.getElem_cons_zero, List.setIfInBounds_toArray, List.set_cons_zero, List.set_cons_succ]
  -- 18
  refine' wpAnyH_take (i := 18) (v := ?v18) rfl (by kernel_rfl) (by kernel_rfl) (by kernel_rfl) (fun _ _ _ h => h) (Or.inl ⟨by rfl, ?y18⟩) (by first | assumption | exact Ext.eq hE (by exact ⟨rfl, rfl, rfl, rfl⟩)) ?r18
  case y18 => (intro w hSw; (try simp only [List.getElem_toArray, List.getElem_cons_succ, List.getElem_cons_zero]); (try dsimp only at hSw); go_simp; (try (with_reducible rfl)))
  try simp only [Act.put, List.getElem_toArray, List.getElem_cons_succ, List.getElem_cons_zero, List.setIfInBounds_toArray, List.set_cons_zero, List.set_cons_succ]
  -- 19
  refine' wpAnyH_take (i := 19) (v := ?v19) rfl (by kernel_rfl) (by kernel_rfl) (by kernel_rfl) (fun _ _ _ h => h) (Or.inl ⟨by rfl, ?y19⟩) (by first | assumption | exact Ext.eq hE (by exact ⟨rfl, rfl, rfl, rfl⟩)) ?r19
  case y19 => (intro w hSw; (try simp only [List.getElem_toArray, List.getElem_cons_succ, List.getElem_cons_zero]); (try dsimp only at hSw); go_simp; (try (with_reducible rfl)))
  try simp only [Act.put, List.getElem_toArray, List.getElem_cons_succ, List.getElem_cons_zero, List.setIfInBounds_toArray, List.set_cons_zero, List.set_cons_succ]
  refine wpAnyH_done (by kernel_rfl) ?_ _
  refine NoPanic.normal ?_
  go_wp2
  go_ret
  exact ⟨rfl, below_tr B1 (by first | exact hE | exact Ext.eq hE ⟨rfl, rfl, rfl, rfl⟩)⟩

set_option maxHeartbeats 4000000 in
theorem isaReads_501 (op b imm : Int) (w : World) (hb : 0 < b) (hr : rightB ⟨op, 0, 0, b, imm⟩ = true) (hf : form op = 5) (hl : readsL ⟨op, 0, 0, b, imm⟩ = [b]) :
    Calls Try.prog 9 #[.agg #[.int .i64 op, .int .i64 0, .int .i64 0, .int .i64 b, .int .i64 imm]] w fun e w' => e = .returned (.bool true) ∧ Below w.heap.size w w' := by
  have Hs := hid (fun w => reads_any ⟨op, 0, 0, b, imm⟩ w)
  have Hr := hid (fun w => refRight_any ⟨op, 0, 0, b, imm⟩ w)
  have Hw := hid (fun w => writes_any ⟨op, 0, 0, b, imm⟩ w)
  have Hf := hid (fun w => form_any op w)
  rw [hl] at Hs
  rw [writes_d ⟨op, 0, 0, b, imm⟩ hr] at Hw
  rw [hr] at Hr
  rw [hf] at Hf
  simp only [Ins.val] at Hs Hr Hw
  clear hr hf hl
  go_enter Try.func9, Try.ntmps9
  go_wp2_with fail
  refine (alive2_any _).mono ?_
  rintro e9 w1 ⟨rfl, b1⟩
  have x1 := (BoxI.new w op 0 0 b imm 23).below b1
  have B1 := below_tr (below_al (Below.refl _ _) _) b1
  obtain ⟨kx0, kx1, kx2, kx3, kx4⟩ := x1.ext
  have hE : Ext w1 w1 := Ext.refl w1
  have hA : ∀ o, Ext w1 (w1.alloc o) := fun o => below_al hE o
  clear b1 x1
  go_wp2_with fail
  refine (Hs.out _).mono ?_
  rintro e9 w9 ⟨v9, rfl, o9, b9⟩
  obtain ⟨A9, c9, e9, r9, q9⟩ := own_rd o9
  subst e9
  have hE' := Ext.tr hE b9 (by exact ⟨rfl, rfl, rfl, rfl⟩)
  clear hE b9 hA o9
  have hE := hE'
  clear hE'
  go_wp2_with fail
  refine (Hr.out _).mono ?_
  rintro e9 w2 ⟨rfl, b9⟩
  replace r9 := r9.below b9
  have hE' := Ext.tr hE b9 (by exact ⟨rfl, rfl, rfl, rfl⟩)
  clear hE b9
  have hE := hE'
  clear hE'
  go_wp2_with fail
  refine (Hf.out _).mono ?_
  rintro e9 w9 ⟨rfl, rfl⟩
  have hA : ∀ o, Ext w1 (w2.alloc o) := fun o => below_al hE o
  go_wp2_with (at_builtin; refine wpl_append w2.heap.size rfl 33 3 (.int .i64 0) 1 8 Try.underlying33 (by kernel_rfl) rfl (by omega) (by omega) _ 0 [] (own_nil _ _ _ _) (some ⟨w2.heap.size, 0, none⟩) 1 1 [.int .i64 b] rfl (rd_new _ _ _) (by simp) (one_cell _) (by omega) (by simp) ?_)
  intro v3 w3 o3 g3 b3
  have k3 : Below w2.heap.size w2 w3 := (below_al (Below.refl _ _) _).grown g3 (by simp) (by intro k hk; simp [Value.ownBlock] at hk)
  replace r9 := r9.below k3
  have hE' := Ext.tr hE k3 (by exact ⟨rfl, rfl, rfl, rfl⟩)
  clear hE hA g3 b3
  have hE := hE'
  clear hE'
  obtain ⟨A3, c3, e3, r3, q3⟩ := own_rd o3
  subst e3
  clear o3
  go_wp2_with fail
  have hS : ∀ W, Eqw W w3 → Calls Try.prog 19 #[.slice A9 1 c9, .slice A3 1 c3] W fun e w' => e = .returned (.bool true) ∧ Drw W w' := fun W hW => same_eq [b] 1 rfl A9 A3 c9 c3 W (by omega) (r9.eqw hW) (r3.eqw hW)
  have HS := hid hS
  clear hS r9 r3
  refine wp_region_held_np (S := fun W => Ext w1 W) 20 rfl (by kernel_rfl) ?_
  -- 0
  refine' wpAnyH_take (i := 0) (v := ?v0) rfl (by kernel_rfl) (by kernel_rfl) (by kernel_rfl) (fun _ _ _ h => h) (Or.inl ⟨by rfl, ?y0⟩) (by first | assumption | exact Ext.eq hE (by exact ⟨rfl, rfl, rfl, rfl⟩)) ?r0
  case y0 => (intro w hSw; (try simp only [List.getElem_toArray, List.getElem_cons_succ, List.getElem_cons_zero]); (try dsimp only at hSw); go_simp; (try (with_reducible rfl)))
  try simp only [Act.put, List.getElem_toArray, List.getElem_cons_succ, List.getElem_cons_zero, List.setIfInBounds_toArray, List.set_cons_zero, List.set_cons_succ]
  -- 1
  refine' wpAnyH_take (i := 1) (v := ?v1) rfl (by kernel_rfl) (by kernel_rfl) (by kernel_rfl) (fun _ _ _ h => h) (Or.inl ⟨by rfl, ?y1⟩) (by first | assumption | exact Ext.eq hE (by exact ⟨rfl, rfl, rfl, rfl⟩)) ?r1
  case y1 => (intro w hSw; (try simp only [List.getElem_toArray, List.getElem_cons_succ, List.getElem_cons_zero]); (try dsimp only at hSw); go_simp; (try (with_reducible rfl)))
  try simp only [Act.put, List.getElem_toArray, List.getElem_cons_succ, List.getElem_cons_zero, List.setIfInBounds_toArray, List.set_cons_zero, List.set_cons_succ]
  -- effect 2
  refine wpAnyH_all (rs := [2]) (by kernel_rfl) (by simp) ?_
  intro i0 hi0
  obtain rfl : i0 = 2 := by simpa using hi0
  clear hi0
  refine wpOp_do rfl (by rfl) (fun K hK => ?_)
  simp only [List.getElem_toArray, List.getElem_cons_succ, List.getElem_cons_zero]
  go_simp
  refine (HS.out _ (by exact ⟨rfl, rfl, rfl, rfl⟩)).mono ?_
  rintro e9 w9 ⟨rfl, n9, rfl⟩
  refine hK _ _ ⟨Ext.eq hE (by exact ⟨rfl, rfl, rfl, rfl⟩), ?_⟩
  clear hK K
  try simp only [Act.put, List.getElem_toArray, List.getElem_cons_succ, List.getElem_cons_zero, List.setIfInBounds_toArray, List.set_cons_zero, List.set_cons_succ]
  -- 3
  refine' wpAnyH_take (i := 3) (v := ?v3) rfl (by kernel_rfl) (by kernel_rfl) (by kernel_rfl) (fun _ _ _ h => h) (Or.inl ⟨by rfl, ?y3⟩) (by first | assumption | exact Ext.eq hE (by exact ⟨rfl, rfl, rfl, rfl⟩)) ?r3
  case y3 => (intro w hSw; (try simp only [List.getElem_toArray, List.getElem_cons_succ, List.getElem_cons_zero]); (try dsimp only at hSw); go_simp; (try (with_reducible rfl)))
  try simp only [Act.put, List.getElem_toArray, List.getElem_cons_succ, List.getElem_cons_zero, List.setIfInBounds_toArray, List.set_cons_zero, List.set_cons_succ]
  -- 4
  refine' wpAnyH_take (i := 4) (v := ?v4) rfl (by kernel_rfl) (by kernel_rfl) (by kernel_rfl) (fun _ _ _ h => h) (Or.inl ⟨by rfl, ?y4⟩) (by first | assumption | exact Ext.eq hE (by exact ⟨rfl, rfl, rfl, rfl⟩)) ?r4
  case y4 => (intro w hSw; (try simp only [List.getElem_toArray, List.getElem_cons_succ, List.getElem_cons_zero]); (try dsimp only at hSw); go_simp; (try (with_reducible rfl)))
  try simp only [Act.put, List.getElem_toArray, List.getElem_cons_succ, List.getElem_cons_zero, List.setIfInBounds_toArray, List.set_cons_zero, List.set_cons_succ]
  -- 6
  refine' wpAnyH_take (i := 6) (v := ?v6) rfl (by kernel_rfl) (by kernel_rfl) (by kernel_rfl) (fun _ _ _ h => h) (Or.inl ⟨by rfl, ?y6⟩) (by first | assumption | exact Ext.eq hE (by exact ⟨rfl, rfl, rfl, rfl⟩)) ?r6
  case y6 => (intro w hSw; (try simp only [List.getElem_toArray, List.getElem_cons_succ, List.getElem_cons_zero]); (try dsimp only at hSw); go_simp; (try (with_reducible rfl)))
  try simp only [Act.put, List.getElem_toArray, List.getElem_cons_succ, List.getElem_cons_zero, List.setIfInBounds_toArray, List.set_cons_zero, List.set_cons_succ]
  -- 7
  refine' wpAnyH_take (i := 7) (v := ?v7) rfl (by kernel_rfl) (by kernel_rfl) (by kernel_rfl) (fun _ _ _ h => h) (Or.inl ⟨by rfl, ?y7⟩) (by first | assumption | exact Ext.eq hE (by exact ⟨rfl, rfl, rfl, rfl⟩)) ?r7
  case y7 => (intro w hSw; (try simp only [List.getElem_toArray, List.getElem_cons_succ, List.getElem_cons_zero]); (try dsimp only at hSw); go_simp; (try (with_reducible rfl)))
  try simp only [Act.put, List.getElem_toArray, List.getElem_cons_succ, List.getElem_cons_zero, List.setIfInBounds_toArray, List.set_cons_zero, List.set_cons_succ]
  -- effect 5
  refine wpAnyH_all (rs := [5]) (by kernel_rfl) (by simp) ?_
  intro i0 hi0
  obtain rfl : i0 = 5 := by simpa using hi0
  clear hi0
  refine wpOp_do rfl (by rfl) (fun K hK => ?_)
  simp only [List.getElem_toArray, List.getElem_cons_succ, List.getElem_cons_zero]
  go_simp
  refine (Hw.out _).mono ?_
  rintro e9 w9 ⟨rfl, b9⟩
  have hE' := Ext.tr hE b9 (by exact ⟨rfl, rfl, rfl, rfl⟩)
  refine hK _ _ ⟨hE', ?_⟩
  clear hK K hE b9
  have hE := hE'
  clear hE'
  try simp only [Act.put, List.getElem_toArray, List.getElem_cons_succ, List.getElem_cons_zero, List.setIfInBounds_toArray, List.set_cons_zero, List.set_cons_succ]
  -- 8
  refine' wpAnyH_take (i := 8) (v := ?v8) rfl (by kernel_rfl) (by kernel_rfl) (by kernel_rfl) (fun _ _ _ h => h) (Or.inl ⟨by rfl, ?y8⟩) (by first | assumption | exact Ext.eq hE (by exact ⟨rfl, rfl, rfl, rfl⟩)) ?r8
  case y8 => (intro w hSw; (try simp only [List.getElem_toArray, List.getElem_cons_succ, List.getElem_cons_zero]); (try dsimp only at hSw); go_simp; (try (with_reducible rfl)))
  try simp only [Act.put, List.getElem_toArray, List.getElem_cons_succ, List.getElem_cons_zero, List.setIfInBounds_toArray, List.set_cons_zero, List.set_cons_succ]
  -- 9
  refine' wpAnyH_take (i := 9) (v := ?v9) rfl (by kernel_rfl) (by kernel_rfl) (by kernel_rfl) (fun _ _ _ h => h) (Or.inl ⟨by rfl, ?y9⟩) (by first | assumption | exact Ext.eq hE (by exact ⟨rfl, rfl, rfl, rfl⟩)) ?r9
  case y9 => (intro w hSw; (try simp only [List.getElem_toArray, List.getElem_cons_succ, List.getElem_cons_zero]); (try dsimp only at hSw); go_simp; (try (with_reducible rfl)))
  try simp only [Act.put, List.getElem_toArray, List.getElem_cons_succ, List.getElem_cons_zero, List.setIfInBounds_toArray, List.set_cons_zero, List.set_cons_succ]
  -- 10
  refine' wpAnyH_take (i := 10) (v := ?v10) rfl (by kernel_rfl) (by kernel_rfl) (by kernel_rfl) (fun _ _ _ h => h) (Or.inl ⟨by rfl, ?y10⟩) (by first | assumption | exact Ext.eq hE (by exact ⟨rfl, rfl, rfl, rfl⟩)) ?r10
  case y10 => (intro w hSw; (try simp only [List.getElem_toArray, List.getElem_cons_succ, List.getElem_cons_zero]); (try dsimp only at hSw); go_simp; (try (with_reducible rfl)))
  try simp only [Act.put, List.getElem_toArray, List.getElem_cons_succ, List.getElem_cons_zero, List.setIfInBounds_toArray, List.set_cons_zero, List.set_cons_succ]
  -- 11
  refine' wpAnyH_take (i := 11) (v := ?v11) rfl (by kernel_rfl) (by kernel_rfl) (by kernel_rfl) (fun _ _ _ h => h) (Or.inl ⟨by rfl, ?y11⟩) (by first | assumption | exact Ext.eq hE (by exact ⟨rfl, rfl, rfl, rfl⟩)) ?r11
  case y11 => (intro w hSw; (try simp only [List.getElem_toArray, List.getElem_cons_succ, List.getElem_cons_zero]); (try dsimp only at hSw); go_simp; (try (with_reducible rfl)))
  try simp only [Act.put, List.getElem_toArray, List.getElem_cons_succ, List.getElem_cons_zero, List.setIfInBounds_toArray, List.set_cons_zero, List.set_cons_succ]
  -- 12
  refine' wpAnyH_take (i := 12) (v := ?v12) rfl (by kernel_rfl) (by kernel_rfl) (by kernel_rfl) (fun _ _ _ h => h) (Or.inl ⟨by rfl, ?y12⟩) (by first | assumption | exact Ext.eq hE (by exact ⟨rfl, rfl, rfl, rfl⟩)) ?r12
  case y12 => (intro w hSw; (try simp only [List.getElem_toArray, List.getElem_cons_succ, List.getElem_cons_zero]); (try dsimp only at hSw); go_simp; (try (with_reducible rfl)))
  try simp only [Act.put, List.getElem_toArray, List.getElem_cons_succ, List.getElem_cons_zero, List.setIfInBounds_toArray, List.set_cons_zero, List.set_cons_succ]
  -- 13
  refine' wpAnyH_take (i := 13) (v := ?v13) rfl (by kernel_rfl) (by kernel_rfl) (by kernel_rfl) (fun _ _ _ h => h) (Or.inl ⟨by rfl, ?y13⟩) (by first | assumption | exact Ext.eq hE (by exact ⟨rfl, rfl, rfl, rfl⟩)) ?r13
  case y13 => (intro w hSw; (try simp only [List.getElem_toArray, List.getElem_cons_succ, List.getElem_cons_zero]); (try dsimp only at hSw); go_simp; (try (with_reducible rfl)))
  try simp only [Act.put, List.getElem_toArray, List.getElem_cons_succ, List.getElem_cons_zero, List.setIfInBounds_toArray, List.set_cons_zero, List.set_cons_succ]
  -- 14
  refine' wpAnyH_take (i := 14) (v := ?v14) rfl (by kernel_rfl) (by kernel_rfl) (by kernel_rfl) (fun _ _ _ h => h) (Or.inl ⟨by rfl, ?y14⟩) (by first | assumption | exact Ext.eq hE (by exact ⟨rfl, rfl, rfl, rfl⟩)) ?r14
  case y14 => (intro w hSw; (try simp only [List.getElem_toArray, List.getElem_cons_succ, List.getElem_cons_zero]); (try dsimp only at hSw); go_simp; (try (with_reducible rfl)))
  try simp only [Act.put, List.getElem_toArray, List.getElem_cons_succ, List.getElem_cons_zero, List.setIfInBounds_toArray, List.set_cons_zero, List.set_cons_succ]
  -- 15
  refine' wpAnyH_take (i := 15) (v := ?v15) rfl (by kernel_rfl) (by kernel_rfl) (by kernel_rfl) (fun _ _ _ h => h) (Or.inl ⟨by rfl, ?y15⟩) (by first | assumption | exact Ext.eq hE (by exact ⟨rfl, rfl, rfl, rfl⟩)) ?r15
  case y15 => (intro w hSw; (try simp only [List.getElem_toArray, List.getElem_cons_succ, List.getElem_cons_zero]); (try dsimp only at hSw); go_simp; (try (with_reducible rfl)))
  try simp only [Act.put, List.getElem_toArray, List.getElem_cons_succ, List.getElem_cons_zero, List.setIfInBounds_toArray, List.set_cons_zero, List.set_cons_succ]
  -- 16
  refine' wpAnyH_take (i := 16) (v := ?v16) rfl (by kernel_rfl) (by kernel_rfl) (by kernel_rfl) (fun _ _ _ h => h) (Or.inl ⟨by rfl, ?y16⟩) (by first | assumption | exact Ext.eq hE (by exact ⟨rfl, rfl, rfl, rfl⟩)) ?r16
  case y16 => (intro w hSw; (try simp only [List.getElem_toArray, List.getElem_cons_succ, List.getElem_cons_zero]); (try dsimp only at hSw); go_simp; (try (with_reducible rfl)))
  try simp only [Act.put, List.getElem_toArray, List.getElem_cons_succ, List.getElem_cons_zero, List.setIfInBounds_toArray, List.set_cons_zero, List.set_cons_succ]
  -- 17
  refine' wpAnyH_take (i := 17) (v := ?v17) rfl (by kernel_rfl) (by kernel_rfl) (by kernel_rfl) (fun _ _ _ h => h) (Or.inl ⟨by rfl, ?y17⟩) (by first | assumption | exact Ext.eq hE (by exact ⟨rfl, rfl, rfl, rfl⟩)) ?r17
  case y17 => (intro w hSw; (try simp only [List.getElem_toArray, List.getElem_cons_succ, List.getElem_cons_zero]); (try dsimp only at hSw); go_simp; (try (with_reducible rfl)))
  try simp only [Act.put, List.getElem_toArray, List.getElem_cons_succ, List.getElem_cons_zero, List.setIfInBounds_toArray, List.set_cons_zero, List.set_cons_succ]
  -- 18
  refine' wpAnyH_take (i := 18) (v := ?v18) rfl (by kernel_rfl) (by kernel_rfl) (by kernel_rfl) (fun _ _ _ h => h) (Or.inl ⟨by rfl, ?y18⟩) (by first | assumption | exact Ext.eq hE (by exact ⟨rfl, rfl, rfl, rfl⟩)) ?r18
  case y18 => (intro w hSw; (try simp only [List.getElem_toArray, List.getElem_cons_succ, List.getElem_cons_zero]); (try dsimp only at hSw); go_simp; (try (with_reducible rfl)))
  try simp only [Act.put, List.getElem_toArray, List.getElem_cons_succ, List.getElem_cons_zero, List.setIfInBounds_toArray, List.set_cons_zero, List.set_cons_succ]
  -- 19
  refine' wpAnyH_take (i := 19) (v := ?v19) rfl (by kernel_rfl) (by kernel_rfl) (by kernel_rfl) (fun _ _ _ h => h) (Or.inl ⟨by rfl, ?y19⟩) (by first | assumption | exact Ext.eq hE (by exact ⟨rfl, rfl, rfl, rfl⟩)) ?r19
  case y19 => (intro w hSw; (try simp only [List.getElem_toArray, List.getElem_cons_succ, List.getElem_cons_zero]); (try dsimp only at hSw); go_simp; (try (with_reducible rfl)))
  try simp only [Act.put, List.getElem_toArray, List.getElem_cons_succ, List.getElem_cons_zero, List.setIfInBounds_toArray, List.set_cons_zero, List.set_cons_succ]
  refine wpAnyH_done (by kernel_rfl) ?_ _
  refine NoPanic.normal ?_
  go_wp2
  go_ret
  exact ⟨rfl, below_tr B1 (by first | exact hE | exact Ext.eq hE ⟨rfl, rfl, rfl, rfl⟩)⟩

set_option maxHeartbeats 4000000 in
theorem isaReads_510 (op a imm : Int) (w : World) (ha : 0 < a) (hr : rightB ⟨op, 0, a, 0, imm⟩ = true) (hf : form op = 5) (hl : readsL ⟨op, 0, a, 0, imm⟩ = [a]) :
    Calls Try.prog 9 #[.agg #[.int .i64 op, .int .i64 0, .int .i64 a, .int .i64 0, .int .i64 imm]] w fun e w' => e = .returned (.bool true) ∧ Below w.heap.size w w' := by
  have Hs := hid (fun w => reads_any ⟨op, 0, a, 0, imm⟩ w)
  have Hr := hid (fun w => refRight_any ⟨op, 0, a, 0, imm⟩ w)
  have Hw := hid (fun w => writes_any ⟨op, 0, a, 0, imm⟩ w)
  have Hf := hid (fun w => form_any op w)
  rw [hl] at Hs
  rw [writes_d ⟨op, 0, a, 0, imm⟩ hr] at Hw
  rw [hr] at Hr
  rw [hf] at Hf
  simp only [Ins.val] at Hs Hr Hw
  clear hr hf hl
  go_enter Try.func9, Try.ntmps9
  go_wp2_with fail
  refine (alive2_any _).mono ?_
  rintro e9 w1 ⟨rfl, b1⟩
  have x1 := (BoxI.new w op 0 a 0 imm 23).below b1
  have B1 := below_tr (below_al (Below.refl _ _) _) b1
  obtain ⟨kx0, kx1, kx2, kx3, kx4⟩ := x1.ext
  have hE : Ext w1 w1 := Ext.refl w1
  have hA : ∀ o, Ext w1 (w1.alloc o) := fun o => below_al hE o
  clear b1 x1
  go_wp2_with fail
  refine (Hs.out _).mono ?_
  rintro e9 w9 ⟨v9, rfl, o9, b9⟩
  obtain ⟨A9, c9, e9, r9, q9⟩ := own_rd o9
  subst e9
  have hE' := Ext.tr hE b9 (by exact ⟨rfl, rfl, rfl, rfl⟩)
  clear hE b9 hA o9
  have hE := hE'
  clear hE'
  go_wp2_with fail
  refine (Hr.out _).mono ?_
  rintro e9 w2 ⟨rfl, b9⟩
  replace r9 := r9.below b9
  have hE' := Ext.tr hE b9 (by exact ⟨rfl, rfl, rfl, rfl⟩)
  clear hE b9
  have hE := hE'
  clear hE'
  go_wp2_with fail
  refine (Hf.out _).mono ?_
  rintro e9 w9 ⟨rfl, rfl⟩
  have hA : ∀ o, Ext w1 (w2.alloc o) := fun o => below_al hE o
  go_wp2_with (at_builtin; refine wpl_append w2.heap.size rfl 33 3 (.int .i64 0) 1 8 Try.underlying33 (by kernel_rfl) rfl (by omega) (by omega) _ 0 [] (own_nil _ _ _ _) (some ⟨w2.heap.size, 0, none⟩) 1 1 [.int .i64 a] rfl (rd_new _ _ _) (by simp) (one_cell _) (by omega) (by simp) ?_)
  intro v3 w3 o3 g3 b3
  have k3 : Below w2.heap.size w2 w3 := (below_al (Below.refl _ _) _).grown g3 (by simp) (by intro k hk; simp [Value.ownBlock] at hk)
  replace r9 := r9.below k3
  have hE' := Ext.tr hE k3 (by exact ⟨rfl, rfl, rfl, rfl⟩)
  clear hE hA g3 b3
  have hE := hE'
  clear hE'
  obtain ⟨A3, c3, e3, r3, q3⟩ := own_rd o3
  subst e3
  clear o3
  go_wp2_with fail
  have hS : ∀ W, Eqw W w3 → Calls Try.prog 19 #[.slice A9 1 c9, .slice A3 1 c3] W fun e w' => e = .returned (.bool true) ∧ Drw W w' := fun W hW => same_eq [a] 1 rfl A9 A3 c9 c3 W (by omega) (r9.eqw hW) (r3.eqw hW)
  have HS := hid hS
  clear hS r9 r3
  refine wp_region_held_np (S := fun W => Ext w1 W) 20 rfl (by kernel_rfl) ?_
  -- 0
  refine' wpAnyH_take (i := 0) (v := ?v0) rfl (by kernel_rfl) (by kernel_rfl) (by kernel_rfl) (fun _ _ _ h => h) (Or.inl ⟨by rfl, ?y0⟩) (by first | assumption | exact Ext.eq hE (by exact ⟨rfl, rfl, rfl, rfl⟩)) ?r0
  case y0 => (intro w hSw; (try simp only [List.getElem_toArray, List.getElem_cons_succ, List.getElem_cons_zero]); (try dsimp only at hSw); go_simp; (try (with_reducible rfl)))
  try simp only [Act.put, List.getElem_toArray, List.getElem_cons_succ, List.getElem_cons_zero, List.setIfInBounds_toArray, List.set_cons_zero, List.set_cons_succ]
  -- 1
  refine' wpAnyH_take (i := 1) (v := ?v1) rfl (by kernel_rfl) (by kernel_rfl) (by kernel_rfl) (fun _ _ _ h => h) (Or.inl ⟨by rfl, ?y1⟩) (by first | assumption | exact Ext.eq hE (by exact ⟨rfl, rfl, rfl, rfl⟩)) ?r1
  case y1 => (intro w hSw; (try simp only [List.getElem_toArray, List.getElem_cons_succ, List.getElem_cons_zero]); (try dsimp only at hSw); go_simp; (try (with_reducible rfl)))
  try simp only [Act.put, List.getElem_toArray, List.getElem_cons_succ, List.getElem_cons_zero, List.setIfInBounds_toArray, List.set_cons_zero, List.set_cons_succ]
  -- effect 2
  refine wpAnyH_all (rs := [2]) (by kernel_rfl) (by simp) ?_
  intro i0 hi0
  obtain rfl : i0 = 2 := by simpa using hi0
  clear hi0
  refine wpOp_do rfl (by rfl) (fun K hK => ?_)
  simp only [List.getElem_toArray, List.getElem_cons_succ, List.getElem_cons_zero]
  go_simp
  refine (HS.out _ (by exact ⟨rfl, rfl, rfl, rfl⟩)).mono ?_
  rintro e9 w9 ⟨rfl, n9, rfl⟩
  refine hK _ _ ⟨Ext.eq hE (by exact ⟨rfl, rfl, rfl, rfl⟩), ?_⟩
  clear hK K
  try simp only [Act.put, List.getElem_toArray, List.getElem_cons_succ, List.getElem_cons_zero, List.setIfInBounds_toArray, List.set_cons_zero, List.set_cons_succ]
  -- 3
  refine' wpAnyH_take (i := 3) (v := ?v3) rfl (by kernel_rfl) (by kernel_rfl) (by kernel_rfl) (fun _ _ _ h => h) (Or.inl ⟨by rfl, ?y3⟩) (by first | assumption | exact Ext.eq hE (by exact ⟨rfl, rfl, rfl, rfl⟩)) ?r3
  case y3 => (intro w hSw; (try simp only [List.getElem_toArray, List.getElem_cons_succ, List.getElem_cons_zero]); (try dsimp only at hSw); go_simp; (try (with_reducible rfl)))
  try simp only [Act.put, List.getElem_toArray, List.getElem_cons_succ, List.getElem_cons_zero, List.setIfInBounds_toArray, List.set_cons_zero, List.set_cons_succ]
  -- 4
  refine' wpAnyH_take (i := 4) (v := ?v4) rfl (by kernel_rfl) (by kernel_rfl) (by kernel_rfl) (fun _ _ _ h => h) (Or.inl ⟨by rfl, ?y4⟩) (by first | assumption | exact Ext.eq hE (by exact ⟨rfl, rfl, rfl, rfl⟩)) ?r4
  case y4 => (intro w hSw; (try simp only [List.getElem_toArray, List.getElem_cons_succ, List.getElem_cons_zero]); (try dsimp only at hSw); go_simp; (try (with_reducible rfl)))
  try simp only [Act.put, List.getElem_toArray, List.getElem_cons_succ, List.getElem_cons_zero, List.setIfInBounds_toArray, List.set_cons_zero, List.set_cons_succ]
  -- 6
  refine' wpAnyH_take (i := 6) (v := ?v6) rfl (by kernel_rfl) (by kernel_rfl) (by kernel_rfl) (fun _ _ _ h => h) (Or.inl ⟨by rfl, ?y6⟩) (by first | assumption | exact Ext.eq hE (by exact ⟨rfl, rfl, rfl, rfl⟩)) ?r6
  case y6 => (intro w hSw; (try simp only [List.getElem_toArray, List.getElem_cons_succ, List.getElem_cons_zero]); (try dsimp only at hSw); go_simp; (try (with_reducible rfl)))
  try simp only [Act.put, List.getElem_toArray, List.getElem_cons_succ, List.getElem_cons_zero, List.setIfInBounds_toArray, List.set_cons_zero, List.set_cons_succ]
  -- 7
  refine' wpAnyH_take (i := 7) (v := ?v7) rfl (by kernel_rfl) (by kernel_rfl) (by kernel_rfl) (fun _ _ _ h => h) (Or.inl ⟨by rfl, ?y7⟩) (by first | assumption | exact Ext.eq hE (by exact ⟨rfl, rfl, rfl, rfl⟩)) ?r7
  case y7 => (intro w hSw; (try simp only [List.getElem_toArray, List.getElem_cons_succ, List.getElem_cons_zero]); (try dsimp only at hSw); go_simp; (try (with_reducible rfl)))
  try simp only [Act.put, List.getElem_toArray, List.getElem_cons_succ, List.getElem_cons_zero, List.setIfInBounds_toArray, List.set_cons_zero, List.set_cons_succ]
  -- effect 5
  refine wpAnyH_all (rs := [5]) (by kernel_rfl) (by simp) ?_
  intro i0 hi0
  obtain rfl : i0 = 5 := by simpa using hi0
  clear hi0
  refine wpOp_do rfl (by rfl) (fun K hK => ?_)
  simp only [List.getElem_toArray, List.getElem_cons_succ, List.getElem_cons_zero]
  go_simp
  refine (Hw.out _).mono ?_
  rintro e9 w9 ⟨rfl, b9⟩
  have hE' := Ext.tr hE b9 (by exact ⟨rfl, rfl, rfl, rfl⟩)
  refine hK _ _ ⟨hE', ?_⟩
  clear hK K hE b9
  have hE := hE'
  clear hE'
  try simp only [Act.put, List.getElem_toArray, List.getElem_cons_succ, List.getElem_cons_zero, List.setIfInBounds_toArray, List.set_cons_zero, List.set_cons_succ]
  -- 8
  refine' wpAnyH_take (i := 8) (v := ?v8) rfl (by kernel_rfl) (by kernel_rfl) (by kernel_rfl) (fun _ _ _ h => h) (Or.inl ⟨by rfl, ?y8⟩) (by first | assumption | exact Ext.eq hE (by exact ⟨rfl, rfl, rfl, rfl⟩)) ?r8
  case y8 => (intro w hSw; (try simp only [List.getElem_toArray, List.getElem_cons_succ, List.getElem_cons_zero]); (try dsimp only at hSw); go_simp; (try (with_reducible rfl)))
  try simp only [Act.put, List.getElem_toArray, List.getElem_cons_succ, List.getElem_cons_zero, List.setIfInBounds_toArray, List.set_cons_zero, List.set_cons_succ]
  -- 9
  refine' wpAnyH_take (i := 9) (v := ?v9) rfl (by kernel_rfl) (by kernel_rfl) (by kernel_rfl) (fun _ _ _ h => h) (Or.inl ⟨by rfl, ?y9⟩) (by first | assumption | exact Ext.eq hE (by exact ⟨rfl, rfl, rfl, rfl⟩)) ?r9
  case y9 => (intro w hSw; (try simp only [List.getElem_toArray, List.getElem_cons_succ, List.getElem_cons_zero]); (try dsimp only at hSw); go_simp; (try (with_reducible rfl)))
  try simp only [Act.put, List.getElem_toArray, List.getElem_cons_succ, List.getElem_cons_zero, List.setIfInBounds_toArray, List.set_cons_zero, List.set_cons_succ]
  -- 10
  refine' wpAnyH_take (i := 10) (v := ?v10) rfl (by kernel_rfl) (by kernel_rfl) (by kernel_rfl) (fun _ _ _ h => h) (Or.inl ⟨by rfl, ?y10⟩) (by first | assumption | exact Ext.eq hE (by exact ⟨rfl, rfl, rfl, rfl⟩)) ?r10
  case y10 => (intro w hSw; (try simp only [List.getElem_toArray, List.getElem_cons_succ, List.getElem_cons_zero]); (try dsimp only at hSw); go_simp; (try (with_reducible rfl)))
  try simp only [Act.put, List.getElem_toArray, List.getElem_cons_succ, List.getElem_cons_zero, List.setIfInBounds_toArray, List.set_cons_zero, List.set_cons_succ]
  -- 11
  refine' wpAnyH_take (i := 11) (v := ?v11) rfl (by kernel_rfl) (by kernel_rfl) (by kernel_rfl) (fun _ _ _ h => h) (Or.inl ⟨by rfl, ?y11⟩) (by first | assumption | exact Ext.eq hE (by exact ⟨rfl, rfl, rfl, rfl⟩)) ?r11
  case y11 => (intro w hSw; (try simp only [List.getElem_toArray, List.getElem_cons_succ, List.getElem_cons_zero]); (try dsimp only at hSw); go_simp; (try (with_reducible rfl)))
  try simp only [Act.put, List.getElem_toArray, List.getElem_cons_succ, List.getElem_cons_zero, List.setIfInBounds_toArray, List.set_cons_zero, List.set_cons_succ]
  -- 12
  refine' wpAnyH_take (i := 12) (v := ?v12) rfl (by kernel_rfl) (by kernel_rfl) (by kernel_rfl) (fun _ _ _ h => h) (Or.inl ⟨by rfl, ?y12⟩) (by first | assumption | exact Ext.eq hE (by exact ⟨rfl, rfl, rfl, rfl⟩)) ?r12
  case y12 => (intro w hSw; (try simp only [List.getElem_toArray, List.getElem_cons_succ, List.getElem_cons_zero]); (try dsimp only at hSw); go_simp; (try (with_reducible rfl)))
  try simp only [Act.put, List.getElem_toArray, List.getElem_cons_succ, List.getElem_cons_zero, List.setIfInBounds_toArray, List.set_cons_zero, List.set_cons_succ]
  -- 13
  refine' wpAnyH_take (i := 13) (v := ?v13) rfl (by kernel_rfl) (by kernel_rfl) (by kernel_rfl) (fun _ _ _ h => h) (Or.inl ⟨by rfl, ?y13⟩) (by first | assumption | exact Ext.eq hE (by exact ⟨rfl, rfl, rfl, rfl⟩)) ?r13
  case y13 => (intro w hSw; (try simp only [List.getElem_toArray, List.getElem_cons_succ, List.getElem_cons_zero]); (try dsimp only at hSw); go_simp; (try (with_reducible rfl)))
  try simp only [Act.put, List.getElem_toArray, List.getElem_cons_succ, List.getElem_cons_zero, List.setIfInBounds_toArray, List.set_cons_zero, List.set_cons_succ]
  -- 14
  refine' wpAnyH_take (i := 14) (v := ?v14) rfl (by kernel_rfl) (by kernel_rfl) (by kernel_rfl) (fun _ _ _ h => h) (Or.inl ⟨by rfl, ?y14⟩) (by first | assumption | exact Ext.eq hE (by exact ⟨rfl, rfl, rfl, rfl⟩)) ?r14
  case y14 => (intro w hSw; (try simp only [List.getElem_toArray, List.getElem_cons_succ, List.getElem_cons_zero]); (try dsimp only at hSw); go_simp; (try (with_reducible rfl)))
  try simp only [Act.put, List.getElem_toArray, List.getElem_cons_succ, List.getElem_cons_zero, List.setIfInBounds_toArray, List.set_cons_zero, List.set_cons_succ]
  -- 15
  refine' wpAnyH_take (i := 15) (v := ?v15) rfl (by kernel_rfl) (by kernel_rfl) (by kernel_rfl) (fun _ _ _ h => h) (Or.inl ⟨by rfl, ?y15⟩) (by first | assumption | exact Ext.eq hE (by exact ⟨rfl, rfl, rfl, rfl⟩)) ?r15
  case y15 => (intro w hSw; (try simp only [List.getElem_toArray, List.getElem_cons_succ, List.getElem_cons_zero]); (try dsimp only at hSw); go_simp; (try (with_reducible rfl)))
  try simp only [Act.put, List.getElem_toArray, List.getElem_cons_succ, List.getElem_cons_zero, List.setIfInBounds_toArray, List.set_cons_zero, List.set_cons_succ]
  -- 16
  refine' wpAnyH_take (i := 16) (v := ?v16) rfl (by kernel_rfl) (by kernel_rfl) (by kernel_rfl) (fun _ _ _ h => h) (Or.inl ⟨by rfl, ?y16⟩) (by first | assumption | exact Ext.eq hE (by exact ⟨rfl, rfl, rfl, rfl⟩)) ?r16
  case y16 => (intro w hSw; (try simp only [List.getElem_toArray, List.getElem_cons_succ, List.getElem_cons_zero]); (try dsimp only at hSw); go_simp; (try (with_reducible rfl)))
  try simp only [Act.put, List.getElem_toArray, List.getElem_cons_succ, List.getElem_cons_zero, List.setIfInBounds_toArray, List.set_cons_zero, List.set_cons_succ]
  -- 17
  refine' wpAnyH_take (i := 17) (v := ?v17) rfl (by kernel_rfl) (by kernel_rfl) (by kernel_rfl) (fun _ _ _ h => h) (Or.inl ⟨by rfl, ?y17⟩) (by first | assumption | exact Ext.eq hE (by exact ⟨rfl, rfl, rfl, rfl⟩)) ?r17
  case y17 => (intro w hSw; (try simp only [List.getElem_toArray, List.getElem_cons_succ, List.getElem_cons_zero]); (try dsimp only at hSw); go_simp; (try (with_reducible rfl)))
  try simp only [Act.put, List.getElem_toArray, List.getElem_cons_succ, List.getElem_cons_zero, List.setIfInBounds_toArray, List.set_cons_zero, List.set_cons_succ]
  -- 18
  refine' wpAnyH_take (i := 18) (v := ?v18) rfl (by kernel_rfl) (by kernel_rfl) (by kernel_rfl) (fun _ _ _ h => h) (Or.inl ⟨by rfl, ?y18⟩) (by first | assumption | exact Ext.eq hE (by exact ⟨rfl, rfl, rfl, rfl⟩)) ?r18
  case y18 => (intro w hSw; (try simp only [List.getElem_toArray, List.getElem_cons_succ, List.getElem_cons_zero]); (try dsimp only at hSw); go_simp; (try (with_reducible rfl)))
  try simp only [Act.put, List.getElem_toArray, List.getElem_cons_succ, List.getElem_cons_zero, List.setIfInBounds_toArray, List.set_cons_zero, List.set_cons_succ]
  -- 19
  refine' wpAnyH_take (i := 19) (v := ?v19) rfl (by kernel_rfl) (by kernel_rfl) (by kernel_rfl) (fun _ _ _ h => h) (Or.inl ⟨by rfl, ?y19⟩) (by first | assumption | exact Ext.eq hE (by exact ⟨rfl, rfl, rfl, rfl⟩)) ?r19
  case y19 => (intro w hSw; (try simp only [List.getElem_toArray, List.getElem_cons_succ, List.getElem_cons_zero]); (try dsimp only at hSw); go_simp; (try (with_reducible rfl)))
  try simp only [Act.put, List.getElem_toArray, List.getElem_cons_succ, List.getElem_cons_zero, List.setIfInBounds_toArray, List.set_cons_zero, List.set_cons_succ]
  refine wpAnyH_done (by kernel_rfl) ?_ _
  refine NoPanic.normal ?_
  go_wp2
  go_ret
  exact ⟨rfl, below_tr B1 (by first | exact hE | exact Ext.eq hE ⟨rfl, rfl, rfl, rfl⟩)⟩

set_option maxHeartbeats 4000000 in
theorem isaReads_511 (op a b imm : Int) (w : World) (ha : 0 < a) (hb : 0 < b) (hr : rightB ⟨op, 0, a, b, imm⟩ = true) (hf : form op = 5) (hl : readsL ⟨op, 0, a, b, imm⟩ = [a, b]) :
    Calls Try.prog 9 #[.agg #[.int .i64 op, .int .i64 0, .int .i64 a, .int .i64 b, .int .i64 imm]] w fun e w' => e = .returned (.bool true) ∧ Below w.heap.size w w' := by
  have Hs := hid (fun w => reads_any ⟨op, 0, a, b, imm⟩ w)
  have Hr := hid (fun w => refRight_any ⟨op, 0, a, b, imm⟩ w)
  have Hw := hid (fun w => writes_any ⟨op, 0, a, b, imm⟩ w)
  have Hf := hid (fun w => form_any op w)
  rw [hl] at Hs
  rw [writes_d ⟨op, 0, a, b, imm⟩ hr] at Hw
  rw [hr] at Hr
  rw [hf] at Hf
  simp only [Ins.val] at Hs Hr Hw
  clear hr hf hl
  go_enter Try.func9, Try.ntmps9
  go_wp2_with fail
  refine (alive2_any _).mono ?_
  rintro e9 w1 ⟨rfl, b1⟩
  have x1 := (BoxI.new w op 0 a b imm 23).below b1
  have B1 := below_tr (below_al (Below.refl _ _) _) b1
  obtain ⟨kx0, kx1, kx2, kx3, kx4⟩ := x1.ext
  have hE : Ext w1 w1 := Ext.refl w1
  have hA : ∀ o, Ext w1 (w1.alloc o) := fun o => below_al hE o
  clear b1 x1
  go_wp2_with fail
  refine (Hs.out _).mono ?_
  rintro e9 w9 ⟨v9, rfl, o9, b9⟩
  obtain ⟨A9, c9, e9, r9, q9⟩ := own_rd o9
  subst e9
  have hE' := Ext.tr hE b9 (by exact ⟨rfl, rfl, rfl, rfl⟩)
  clear hE b9 hA o9
  have hE := hE'
  clear hE'
  go_wp2_with fail
  refine (Hr.out _).mono ?_
  rintro e9 w2 ⟨rfl, b9⟩
  replace r9 := r9.below b9
  have hE' := Ext.tr hE b9 (by exact ⟨rfl, rfl, rfl, rfl⟩)
  clear hE b9
  have hE := hE'
  clear hE'
  go_wp2_with fail
  refine (Hf.out _).mono ?_
  rintro e9 w9 ⟨rfl, rfl⟩
  have hA : ∀ o, Ext w1 (w2.alloc o) := fun o => below_al hE o
  go_wp2_with (at_builtin; refine wpl_append w2.heap.size rfl 33 3 (.int .i64 0) 1 8 Try.underlying33 (by kernel_rfl) rfl (by omega) (by omega) _ 0 [] (own_nil _ _ _ _) (some ⟨w2.heap.size, 0, none⟩) 1 1 [.int .i64 a] rfl (rd_new _ _ _) (by simp) (one_cell _) (by omega) (by simp) ?_)
  intro v3 w3 o3 g3 b3
  have k3 : Below w2.heap.size w2 w3 := (below_al (Below.refl _ _) _).grown g3 (by simp) (by intro k hk; simp [Value.ownBlock] at hk)
  have hE2 := hE
  have hE' := Ext.tr hE k3 (by exact ⟨rfl, rfl, rfl, rfl⟩)
  clear hE hA g3 b3
  have hA : ∀ o, Ext w1 (w3.alloc o) := fun o => below_al hE' o
  go_wp2_with (at_builtin; refine wpl_append w2.heap.size rfl 33 3 (.int .i64 0) 1 8 Try.underlying33 (by kernel_rfl) rfl (by omega) (by omega) _ 1 [.int .i64 a] (o3.alloc _) (some ⟨w3.heap.size, 0, none⟩) 1 1 [.int .i64 b] rfl (rd_new _ _ _) (by simp) (one_cell _) (by omega) (by have := k3.size; simp; omega) ?_)
  intro v4 w4 o4 g4 b4
  have k4 : Below w2.heap.size w2 w4 := (below_al k3 _).grown g4 (by have := k3.size; simp; omega) (own_base o3)
  have hE := Ext.tr hE2 k4 (by exact ⟨rfl, rfl, rfl, rfl⟩)
  replace r9 := r9.below k4
  clear hA hE' hE2 g4 b4 k3 k4 o3
  obtain ⟨A3, c3, e3, r3, q3⟩ := own_rd o4
  subst e3
  clear o4
  go_wp2_with fail
  have hS : ∀ W, Eqw W w4 → Calls Try.prog 19 #[.slice A9 2 c9, .slice A3 2 c3] W fun e w' => e = .returned (.bool true) ∧ Drw W w' := fun W hW => same_eq [a, b] 2 rfl A9 A3 c9 c3 W (by omega) (r9.eqw hW) (r3.eqw hW)
  have HS := hid hS
  clear hS r9 r3
  refine wp_region_held_np (S := fun W => Ext w1 W) 20 rfl (by kernel_rfl) ?_
  -- 0
  refine' wpAnyH_take (i := 0) (v := ?v0) rfl (by kernel_rfl) (by kernel_rfl) (by kernel_rfl) (fun _ _ _ h => h) (Or.inl ⟨by rfl, ?y0⟩) (by first | assumption | exact Ext.eq hE (by exact ⟨rfl, rfl, rfl, rfl⟩)) ?r0
  case y0 => (intro w hSw; (try simp only [List.getElem_toArray, List.getElem_cons_succ, List.getElem_cons_zero]); (try dsimp only at hSw); go_simp; (try (with_reducible rfl)))
  try simp only [Act.put, List.getElem_toArray, List.getElem_cons_succ, List.getElem_cons_zero, List.setIfInBounds_toArray, List.set_cons_zero, List.set_cons_succ]
  -- 1
  refine' wpAnyH_take (i := 1) (v := ?v1) rfl (by kernel_rfl) (by kernel_rfl) (by kernel_rfl) (fun _ _ _ h => h) (Or.inl ⟨by rfl, ?y1⟩) (by first | assumption | exact Ext.eq hE (by exact ⟨rfl, rfl, rfl, rfl⟩)) ?r1
  case y1 => (intro w hSw; (try simp only [List.getElem_toArray, List.getElem_cons_succ, List.getElem_cons_zero]); (try dsimp only at hSw); go_simp; (try (with_reducible rfl)))
  try simp only [Act.put, List.getElem_toArray, List.getElem_cons_succ, List.getElem_cons_zero, List.setIfInBounds_toArray, List.set_cons_zero, List.set_cons_succ]
  -- effect 2
  refine wpAnyH_all (rs := [2]) (by kernel_rfl) (by simp) ?_
  intro i0 hi0
  obtain rfl : i0 = 2 := by simpa using hi0
  clear hi0
  refine wpOp_do rfl (by rfl) (fun K hK => ?_)
  simp only [List.getElem_toArray, List.getElem_cons_succ, List.getElem_cons_zero]
  go_simp
  refine (HS.out _ (by exact ⟨rfl, rfl, rfl, rfl⟩)).mono ?_
  rintro e9 w9 ⟨rfl, n9, rfl⟩
  refine hK _ _ ⟨Ext.eq hE (by exact ⟨rfl, rfl, rfl, rfl⟩), ?_⟩
  clear hK K
  try simp only [Act.put, List.getElem_toArray, List.getElem_cons_succ, List.getElem_cons_zero, List.setIfInBounds_toArray, List.set_cons_zero, List.set_cons_succ]
  -- 3
  refine' wpAnyH_take (i := 3) (v := ?v3) rfl (by kernel_rfl) (by kernel_rfl) (by kernel_rfl) (fun _ _ _ h => h) (Or.inl ⟨by rfl, ?y3⟩) (by first | assumption | exact Ext.eq hE (by exact ⟨rfl, rfl, rfl, rfl⟩)) ?r3
  case y3 => (intro w hSw; (try simp only [List.getElem_toArray, List.getElem_cons_succ, List.getElem_cons_zero]); (try dsimp only at hSw); go_simp; (try (with_reducible rfl)))
  try simp only [Act.put, List.getElem_toArray, List.getElem_cons_succ, List.getElem_cons_zero, List.setIfInBounds_toArray, List.set_cons_zero, List.set_cons_succ]
  -- 4
  refine' wpAnyH_take (i := 4) (v := ?v4) rfl (by kernel_rfl) (by kernel_rfl) (by kernel_rfl) (fun _ _ _ h => h) (Or.inl ⟨by rfl, ?y4⟩) (by first | assumption | exact Ext.eq hE (by exact ⟨rfl, rfl, rfl, rfl⟩)) ?r4
  case y4 => (intro w hSw; (try simp only [List.getElem_toArray, List.getElem_cons_succ, List.getElem_cons_zero]); (try dsimp only at hSw); go_simp; (try (with_reducible rfl)))
  try simp only [Act.put, List.getElem_toArray, List.getElem_cons_succ, List.getElem_cons_zero, List.setIfInBounds_toArray, List.set_cons_zero, List.set_cons_succ]
  -- 6
  refine' wpAnyH_take (i := 6) (v := ?v6) rfl (by kernel_rfl) (by kernel_rfl) (by kernel_rfl) (fun _ _ _ h => h) (Or.inl ⟨by rfl, ?y6⟩) (by first | assumption | exact Ext.eq hE (by exact ⟨rfl, rfl, rfl, rfl⟩)) ?r6
  case y6 => (intro w hSw; (try simp only [List.getElem_toArray, List.getElem_cons_succ, List.getElem_cons_zero]); (try dsimp only at hSw); go_simp; (try (with_reducible rfl)))
  try simp only [Act.put, List.getElem_toArray, List.getElem_cons_succ, List.getElem_cons_zero, List.setIfInBounds_toArray, List.set_cons_zero, List.set_cons_succ]
  -- 7
  refine' wpAnyH_take (i := 7) (v := ?v7) rfl (by kernel_rfl) (by kernel_rfl) (by kernel_rfl) (fun _ _ _ h => h) (Or.inl ⟨by rfl, ?y7⟩) (by first | assumption | exact Ext.eq hE (by exact ⟨rfl, rfl, rfl, rfl⟩)) ?r7
  case y7 => (intro w hSw; (try simp only [List.getElem_toArray, List.getElem_cons_succ, List.getElem_cons_zero]); (try dsimp only at hSw); go_simp; (try (with_reducible rfl)))
  try simp only [Act.put, List.getElem_toArray, List.getElem_cons_succ, List.getElem_cons_zero, List.setIfInBounds_toArray, List.set_cons_zero, List.set_cons_succ]
  -- effect 5
  refine wpAnyH_all (rs := [5]) (by kernel_rfl) (by simp) ?_
  intro i0 hi0
  obtain rfl : i0 = 5 := by simpa using hi0
  clear hi0
  refine wpOp_do rfl (by rfl) (fun K hK => ?_)
  simp only [List.getElem_toArray, List.getElem_cons_succ, List.getElem_cons_zero]
  go_simp
  refine (Hw.out _).mono ?_
  rintro e9 w9 ⟨rfl, b9⟩
  have hE' := Ext.tr hE b9 (by exact ⟨rfl, rfl, rfl, rfl⟩)
  refine hK _ _ ⟨hE', ?_⟩
  clear hK K hE b9
  have hE := hE'
  clear hE'
  try simp only [Act.put, List.getElem_toArray, List.getElem_cons_succ, List.getElem_cons_zero, List.setIfInBounds_toArray, List.set_cons_zero, List.set_cons_succ]
  -- 8
  refine' wpAnyH_take (i := 8) (v := ?v8) rfl (by kernel_rfl) (by kernel_rfl) (by kernel_rfl) (fun _ _ _ h => h) (Or.inl ⟨by rfl, ?y8⟩) (by first | assumption | exact Ext.eq hE (by exact ⟨rfl, rfl, rfl, rfl⟩)) ?r8
  case y8 => (intro w hSw; (try simp only [List.getElem_toArray, List.getElem_cons_succ, List.getElem_cons_zero]); (try dsimp only at hSw); go_simp; (try (with_reducible rfl)))
  try simp only [Act.put, List.getElem_toArray, List.getElem_cons_succ, List.getElem_cons_zero, List.setIfInBounds_toArray, List.set_cons_zero, List.set_cons_succ]
  -- 9
  refine' wpAnyH_take (i := 9) (v := ?v9) rfl (by kernel_rfl) (by kernel_rfl) (by kernel_rfl) (fun _ _ _ h => h) (Or.inl ⟨by rfl, ?y9⟩) (by first | assumption | exact Ext.eq hE (by exact ⟨rfl, rfl, rfl, rfl⟩)) ?r9
  case y9 => (intro w hSw; (try simp only [List.getElem_toArray, List.getElem_cons_succ, List.getElem_cons_zero]); (try dsimp only at hSw); go_simp; (try (with_reducible rfl)))
  try simp only [Act.put, List.getElem_toArray, List.getElem_cons_succ, List.getElem_cons_zero, List.setIfInBounds_toArray, List.set_cons_zero, List.set_cons_succ]
  -- 10
  refine' wpAnyH_take (i := 10) (v := ?v10) rfl (by kernel_rfl) (by kernel_rfl) (by kernel_rfl) (fun _ _ _ h => h) (Or.inl ⟨by rfl, ?y10⟩) (by first | assumption | exact Ext.eq hE (by exact ⟨rfl, rfl, rfl, rfl⟩)) ?r10
  case y10 => (intro w hSw; (try simp only [List.getElem_toArray, List.getElem_cons_succ, List.getElem_cons_zero]); (try dsimp only at hSw); go_simp; (try (with_reducible rfl)))
  try simp only [Act.put, List.getElem_toArray, List.getElem_cons_succ, List.getElem_cons_zero, List.setIfInBounds_toArray, List.set_cons_zero, List.set_cons_succ]
  -- 11
  refine' wpAnyH_take (i := 11) (v := ?v11) rfl (by kernel_rfl) (by kernel_rfl) (by kernel_rfl) (fun _ _ _ h => h) (Or.inl ⟨by rfl, ?y11⟩) (by first | assumption | exact Ext.eq hE (by exact ⟨rfl, rfl, rfl, rfl⟩)) ?r11
  case y11 => (intro w hSw; (try simp only [List.getElem_toArray, List.getElem_cons_succ, List.getElem_cons_zero]); (try dsimp only at hSw); go_simp; (try (with_reducible rfl)))
  try simp only [Act.put, List.getElem_toArray, List.getElem_cons_succ, List.getElem_cons_zero, List.setIfInBounds_toArray, List.set_cons_zero, List.set_cons_succ]
  -- 12
  refine' wpAnyH_take (i := 12) (v := ?v12) rfl (by kernel_rfl) (by kernel_rfl) (by kernel_rfl) (fun _ _ _ h => h) (Or.inl ⟨by rfl, ?y12⟩) (by first | assumption | exact Ext.eq hE (by exact ⟨rfl, rfl, rfl, rfl⟩)) ?r12
  case y12 => (intro w hSw; (try simp only [List.getElem_toArray, List.getElem_cons_succ, List.getElem_cons_zero]); (try dsimp only at hSw); go_simp; (try (with_reducible rfl)))
  try simp only [Act.put, List.getElem_toArray, List.getElem_cons_succ, List.getElem_cons_zero, List.setIfInBounds_toArray, List.set_cons_zero, List.set_cons_succ]
  -- 13
  refine' wpAnyH_take (i := 13) (v := ?v13) rfl (by kernel_rfl) (by kernel_rfl) (by kernel_rfl) (fun _ _ _ h => h) (Or.inl ⟨by rfl, ?y13⟩) (by first | assumption | exact Ext.eq hE (by exact ⟨rfl, rfl, rfl, rfl⟩)) ?r13
  case y13 => (intro w hSw; (try simp only [List.getElem_toArray, List.getElem_cons_succ, List.getElem_cons_zero]); (try dsimp only at hSw); go_simp; (try (with_reducible rfl)))
  try simp only [Act.put, List.getElem_toArray, List.getElem_cons_succ, List.getElem_cons_zero, List.setIfInBounds_toArray, List.set_cons_zero, List.set_cons_succ]
  -- 14
  refine' wpAnyH_take (i := 14) (v := ?v14) rfl (by kernel_rfl) (by kernel_rfl) (by kernel_rfl) (fun _ _ _ h => h) (Or.inl ⟨by rfl, ?y14⟩) (by first | assumption | exact Ext.eq hE (by exact ⟨rfl, rfl, rfl, rfl⟩)) ?r14
  case y14 => (intro w hSw; (try simp only [List.getElem_toArray, List.getElem_cons_succ, List.getElem_cons_zero]); (try dsimp only at hSw); go_simp; (try (with_reducible rfl)))
  try simp only [Act.put, List.getElem_toArray, List.getElem_cons_succ, List.getElem_cons_zero, List.setIfInBounds_toArray, List.set_cons_zero, List.set_cons_succ]
  -- 15
  refine' wpAnyH_take (i := 15) (v := ?v15) rfl (by kernel_rfl) (by kernel_rfl) (by kernel_rfl) (fun _ _ _ h => h) (Or.inl ⟨by rfl, ?y15⟩) (by first | assumption | exact Ext.eq hE (by exact ⟨rfl, rfl, rfl, rfl⟩)) ?r15
  case y15 => (intro w hSw; (try simp only [List.getElem_toArray, List.getElem_cons_succ, List.getElem_cons_zero]); (try dsimp only at hSw); go_simp; (try (with_reducible rfl)))
  try simp only [Act.put, List.getElem_toArray, List.getElem_cons_succ, List.getElem_cons_zero, List.setIfInBounds_toArray, List.set_cons_zero, List.set_cons_succ]
  -- 16
  refine' wpAnyH_take (i := 16) (v := ?v16) rfl (by kernel_rfl) (by kernel_rfl) (by kernel_rfl) (fun _ _ _ h => h) (Or.inl ⟨by rfl, ?y16⟩) (by first | assumption | exact Ext.eq hE (by exact ⟨rfl, rfl, rfl, rfl⟩)) ?r16
  case y16 => (intro w hSw; (try simp only [List.getElem_toArray, List.getElem_cons_succ, List.getElem_cons_zero]); (try dsimp only at hSw); go_simp; (try (with_reducible rfl)))
  try simp only [Act.put, List.getElem_toArray, List.getElem_cons_succ, List.getElem_cons_zero, List.setIfInBounds_toArray, List.set_cons_zero, List.set_cons_succ]
  -- 17
  refine' wpAnyH_take (i := 17) (v := ?v17) rfl (by kernel_rfl) (by kernel_rfl) (by kernel_rfl) (fun _ _ _ h => h) (Or.inl ⟨by rfl, ?y17⟩) (by first | assumption | exact Ext.eq hE (by exact ⟨rfl, rfl, rfl, rfl⟩)) ?r17
  case y17 => (intro w hSw; (try simp only [List.getElem_toArray, List.getElem_cons_succ, List.getElem_cons_zero]); (try dsimp only at hSw); go_simp; (try (with_reducible rfl)))
  try simp only [Act.put, List.getElem_toArray, List.getElem_cons_succ, List.getElem_cons_zero, List.setIfInBounds_toArray, List.set_cons_zero, List.set_cons_succ]
  -- 18
  refine' wpAnyH_take (i := 18) (v := ?v18) rfl (by kernel_rfl) (by kernel_rfl) (by kernel_rfl) (fun _ _ _ h => h) (Or.inl ⟨by rfl, ?y18⟩) (by first | assumption | exact Ext.eq hE (by exact ⟨rfl, rfl, rfl, rfl⟩)) ?r18
  case y18 => (intro w hSw; (try simp only [List.getElem_toArray, List.getElem_cons_succ, List.getElem_cons_zero]); (try dsimp only at hSw); go_simp; (try (with_reducible rfl)))
  try simp only [Act.put, List.getElem_toArray, List.getElem_cons_succ, List.getElem_cons_zero, List.setIfInBounds_toArray, List.set_cons_zero, List.set_cons_succ]
  -- 19
  refine' wpAnyH_take (i := 19) (v := ?v19) rfl (by kernel_rfl) (by kernel_rfl) (by kernel_rfl) (fun _ _ _ h => h) (Or.inl ⟨by rfl, ?y19⟩) (by first | assumption | exact Ext.eq hE (by exact ⟨rfl, rfl, rfl, rfl⟩)) ?r19
  case y19 => (intro w hSw; (try simp only [List.getElem_toArray, List.getElem_cons_succ, List.getElem_cons_zero]); (try dsimp only at hSw); go_simp; (try (with_reducible rfl)))
  try simp only [Act.put, List.getElem_toArray, List.getElem_cons_succ, List.getElem_cons_zero, List.setIfInBounds_toArray, List.set_cons_zero, List.set_cons_succ]
  refine wpAnyH_done (by kernel_rfl) ?_ _
  refine NoPanic.normal ?_
  go_wp2
  go_ret
  exact ⟨rfl, below_tr B1 (by first | exact hE | exact Ext.eq hE ⟨rfl, rfl, rfl, rfl⟩)⟩

set_option maxHeartbeats 4000000 in
theorem isaReads_600 (op imm : Int) (w : World) (hr : rightB ⟨op, 0, 0, 0, imm⟩ = true) (hf : form op = 6) (hl : readsL ⟨op, 0, 0, 0, imm⟩ = []) :
    Calls Try.prog 9 #[.agg #[.int .i64 op, .int .i64 0, .int .i64 0, .int .i64 0, .int .i64 imm]] w fun e w' => e = .returned (.bool true) ∧ Below w.heap.size w w' := by
  have Hs := hid (fun w => reads_any ⟨op, 0, 0, 0, imm⟩ w)
  have Hr := hid (fun w => refRight_any ⟨op, 0, 0, 0, imm⟩ w)
  have Hw := hid (fun w => writes_any ⟨op, 0, 0, 0, imm⟩ w)
  have Hf := hid (fun w => form_any op w)
  rw [hl] at Hs
  rw [writes_d ⟨op, 0, 0, 0, imm⟩ hr] at Hw
  rw [hr] at Hr
  rw [hf] at Hf
  simp only [Ins.val] at Hs Hr Hw
  clear hr hf hl
  go_enter Try.func9, Try.ntmps9
  go_wp2_with fail
  refine (alive2_any _).mono ?_
  rintro e9 w1 ⟨rfl, b1⟩
  have x1 := (BoxI.new w op 0 0 0 imm 23).below b1
  have B1 := below_tr (below_al (Below.refl _ _) _) b1
  obtain ⟨kx0, kx1, kx2, kx3, kx4⟩ := x1.ext
  have hE : Ext w1 w1 := Ext.refl w1
  have hA : ∀ o, Ext w1 (w1.alloc o) := fun o => below_al hE o
  clear b1 x1
  go_wp2_with fail
  refine (Hs.out _).mono ?_
  rintro e9 w9 ⟨v9, rfl, o9, b9⟩
  obtain ⟨A9, c9, e9, r9, q9⟩ := own_rd o9
  subst e9
  have hE' := Ext.tr hE b9 (by exact ⟨rfl, rfl, rfl, rfl⟩)
  clear hE b9 hA o9
  have hE := hE'
  clear hE'
  go_wp2_with fail
  refine (Hr.out _).mono ?_
  rintro e9 w2 ⟨rfl, b9⟩
  replace r9 := r9.below b9
  have hE' := Ext.tr hE b9 (by exact ⟨rfl, rfl, rfl, rfl⟩)
  clear hE b9
  have hE := hE'
  clear hE'
  go_wp2_with fail
  refine (Hf.out _).mono ?_
  rintro e9 w9 ⟨rfl, rfl⟩
  have hA : ∀ o, Ext w1 (w2.alloc o) := fun o => below_al hE o
  clear hA
  go_wp2_with fail
  have hS : ∀ W, Eqw W w2 → Calls Try.prog 19 #[.slice A9 0 c9, .slice none 0 0] W fun e w' => e = .returned (.bool true) ∧ Drw W w' := fun W hW => same_eq [] 0 rfl A9 none c9 0 W (by omega) (r9.eqw hW) (Rd.nil _ _)
  have HS := hid hS
  clear hS r9
  refine wp_region_held_np (S := fun W => Ext w1 W) 20 rfl (by kernel_rfl) ?_
  -- 0
  refine' wpAnyH_take (i := 0) (v := ?v0) rfl (by kernel_rfl) (by kernel_rfl) (by kernel_rfl) (fun _ _ _ h => h) (Or.inl ⟨by rfl, ?y0⟩) (by first | assumption | exact Ext.eq hE (by exact ⟨rfl, rfl, rfl, rfl⟩)) ?r0
  case y0 => (intro w hSw; (try simp only [List.getElem_toArray, List.getElem_cons_succ, List.getElem_cons_zero]); (try dsimp only at hSw); go_simp; (try (with_reducible rfl)))
  try simp only [Act.put, List.getElem_toArray, List.getElem_cons_succ, List.getElem_cons_zero, List.setIfInBounds_toArray, List.set_cons_zero, List.set_cons_succ]
  -- 1
  refine' wpAnyH_take (i := 1) (v := ?v1) rfl (by kernel_rfl) (by kernel_rfl) (by kernel_rfl) (fun _ _ _ h => h) (Or.inl ⟨by rfl, ?y1⟩) (by first | assumption | exact Ext.eq hE (by exact ⟨rfl, rfl, rfl, rfl⟩)) ?r1
  case y1 => (intro w hSw; (try simp only [List.getElem_toArray, List.getElem_cons_succ, List.getElem_cons_zero]); (try dsimp only at hSw); go_simp; (try (with_reducible rfl)))
  try simp only [Act.put, List.getElem_toArray, List.getElem_cons_succ, List.getElem_cons_zero, List.setIfInBounds_toArray, List.set_cons_zero, List.set_cons_succ]
  -- effect 2
  refine wpAnyH_all (rs := [2]) (by kernel_rfl) (by simp) ?_
  intro i0 hi0
  obtain rfl : i0 = 2 := by simpa using hi0
  clear hi0
  refine wpOp_do rfl (by rfl) (fun K hK => ?_)
  simp only [List.getElem_toArray, List.getElem_cons_succ, List.getElem_cons_zero]
  go_simp
  refine (HS.out _ (by exact ⟨rfl, rfl, rfl, rfl⟩)).mono ?_
  rintro e9 w9 ⟨rfl, n9, rfl⟩
  refine hK _ _ ⟨Ext.eq hE (by exact ⟨rfl, rfl, rfl, rfl⟩), ?_⟩
  clear hK K
  try simp only [Act.put, List.getElem_toArray, List.getElem_cons_succ, List.getElem_cons_zero, List.setIfInBounds_toArray, List.set_cons_zero, List.set_cons_succ]
  -- 3
  refine' wpAnyH_take (i := 3) (v := ?v3) rfl (by kernel_rfl) (by kernel_rfl) (by kernel_rfl) (fun _ _ _ h => h) (Or.inl ⟨by rfl, ?y3⟩) (by first | assumption | exact Ext.eq hE (by exact ⟨rfl, rfl, rfl, rfl⟩)) ?r3
  case y3 => (intro w hSw; (try simp only [List.getElem_toArray, List.getElem_cons_succ, List.getElem_cons_zero]); (try dsimp only at hSw); go_simp; (try (with_reducible rfl)))
  try simp only [Act.put, List.getElem_toArray, List.getElem_cons_succ, List.getElem_cons_zero, List.setIfInBounds_toArray, List.set_cons_zero, List.set_cons_succ]
  -- 4
  refine' wpAnyH_take (i := 4) (v := ?v4) rfl (by kernel_rfl) (by kernel_rfl) (by kernel_rfl) (fun _ _ _ h => h) (Or.inl ⟨by rfl, ?y4⟩) (by first | assumption | exact Ext.eq hE (by exact ⟨rfl, rfl, rfl, rfl⟩)) ?r4
  case y4 => (intro w hSw; (try simp only [List.getElem_toArray, List.getElem_cons_succ, List.getElem_cons_zero]); (try dsimp only at hSw); go_simp; (try (with_reducible rfl)))
  try simp only [Act.put, List.getElem_toArray, List.getElem_cons_succ, List.getElem_cons_zero, List.setIfInBounds_toArray, List.set_cons_zero, List.set_cons_succ]
  -- 6
  refine' wpAnyH_take (i := 6) (v := ?v6) rfl (by kernel_rfl) (by kernel_rfl) (by kernel_rfl) (fun _ _ _ h => h) (Or.inl ⟨by rfl, ?y6⟩) (by first | assumption | exact Ext.eq hE (by exact ⟨rfl, rfl, rfl, rfl⟩)) ?r6
  case y6 => (intro w hSw; (try simp only [List.getElem_toArray, List.getElem_cons_succ, List.getElem_cons_zero]); (try dsimp only at hSw); go_simp; (try (with_reducible rfl)))
  try simp only [Act.put, List.getElem_toArray, List.getElem_cons_succ, List.getElem_cons_zero, List.setIfInBounds_toArray, List.set_cons_zero, List.set_cons_succ]
  -- 7
  refine' wpAnyH_take (i := 7) (v := ?v7) rfl (by kernel_rfl) (by kernel_rfl) (by kernel_rfl) (fun _ _ _ h => h) (Or.inl ⟨by rfl, ?y7⟩) (by first | assumption | exact Ext.eq hE (by exact ⟨rfl, rfl, rfl, rfl⟩)) ?r7
  case y7 => (intro w hSw; (try simp only [List.getElem_toArray, List.getElem_cons_succ, List.getElem_cons_zero]); (try dsimp only at hSw); go_simp; (try (with_reducible rfl)))
  try simp only [Act.put, List.getElem_toArray, List.getElem_cons_succ, List.getElem_cons_zero, List.setIfInBounds_toArray, List.set_cons_zero, List.set_cons_succ]
  -- effect 5
  refine wpAnyH_all (rs := [5]) (by kernel_rfl) (by simp) ?_
  intro i0 hi0
  obtain rfl : i0 = 5 := by simpa using hi0
  clear hi0
  refine wpOp_do rfl (by rfl) (fun K hK => ?_)
  simp only [List.getElem_toArray, List.getElem_cons_succ, List.getElem_cons_zero]
  go_simp
  refine (Hw.out _).mono ?_
  rintro e9 w9 ⟨rfl, b9⟩
  have hE' := Ext.tr hE b9 (by exact ⟨rfl, rfl, rfl, rfl⟩)
  refine hK _ _ ⟨hE', ?_⟩
  clear hK K hE b9
  have hE := hE'
  clear hE'
  try simp only [Act.put, List.getElem_toArray, List.getElem_cons_succ, List.getElem_cons_zero, List.setIfInBounds_toArray, List.set_cons_zero, List.set_cons_succ]
  -- 8
  refine' wpAnyH_take (i := 8) (v := ?v8) rfl (by kernel_rfl) (by kernel_rfl) (by kernel_rfl) (fun _ _ _ h => h) (Or.inl ⟨by rfl, ?y8⟩) (by first | assumption | exact Ext.eq hE (by exact ⟨rfl, rfl, rfl, rfl⟩)) ?r8
  case y8 => (intro w hSw; (try simp only [List.getElem_toArray, List.getElem_cons_succ, List.getElem_cons_zero]); (try dsimp only at hSw); go_simp; (try (with_reducible rfl)))
  try simp only [Act.put, List.getElem_toArray, List.getElem_cons_succ, List.getElem_cons_zero, List.setIfInBounds_toArray, List.set_cons_zero, List.set_cons_succ]
  -- 9
  refine' wpAnyH_take (i := 9) (v := ?v9) rfl (by kernel_rfl) (by kernel_rfl) (by kernel_rfl) (fun _ _ _ h => h) (Or.inl ⟨by rfl, ?y9⟩) (by first | assumption | exact Ext.eq hE (by exact ⟨rfl, rfl, rfl, rfl⟩)) ?r9
  case y9 => (intro w hSw; (try simp only [List.getElem_toArray, List.getElem_cons_succ, List.getElem_cons_zero]); (try dsimp only at hSw); go_simp; (try (with_reducible rfl)))
  try simp only [Act.put, List.getElem_toArray, List.getElem_cons_succ, List.getElem_cons_zero, List.setIfInBounds_toArray, List.set_cons_zero, List.set_cons_succ]
  -- 10
  refine' wpAnyH_take (i := 10) (v := ?v10) rfl (by kernel_rfl) (by kernel_rfl) (by kernel_rfl) (fun _ _ _ h => h) (Or.inl ⟨by rfl, ?y10⟩) (by first | assumption | exact Ext.eq hE (by exact ⟨rfl, rfl, rfl, rfl⟩)) ?r10
  case y10 => (intro w hSw; (try simp only [List.getElem_toArray, List.getElem_cons_succ, List.getElem_cons_zero]); (try dsimp only at hSw); go_simp; (try (with_reducible rfl)))
  try simp only [Act.put, List.getElem_toArray, List.getElem_cons_succ, List.getElem_cons_zero, List.setIfInBounds_toArray, List.set_cons_zero, List.set_cons_succ]
  -- 11
  refine' wpAnyH_take (i := 11) (v := ?v11) rfl (by kernel_rfl) (by kernel_rfl) (by kernel_rfl) (fun _ _ _ h => h) (Or.inl ⟨by rfl, ?y11⟩) (by first | assumption | exact Ext.eq hE (by exact ⟨rfl, rfl, rfl, rfl⟩)) ?r11
  case y11 => (intro w hSw; (try simp only [List.getElem_toArray, List.getElem_cons_succ, List.getElem_cons_zero]); (try dsimp only at hSw); go_simp; (try (with_reducible rfl)))
  try simp only [Act.put, List.getElem_toArray, List.getElem_cons_succ, List.getElem_cons_zero, List.setIfInBounds_toArray, List.set_cons_zero, List.set_cons_succ]
  -- 12
  refine' wpAnyH_take (i := 12) (v := ?v12) rfl (by kernel_rfl) (by kernel_rfl) (by kernel_rfl) (fun _ _ _ h => h) (Or.inl ⟨by rfl, ?y12⟩) (by first | assumption | exact Ext.eq hE (by exact ⟨rfl, rfl, rfl, rfl⟩)) ?r12
  case y12 => (intro w hSw; (try simp only [List.getElem_toArray, List.getElem_cons_succ, List.getElem_cons_zero]); (try dsimp only at hSw); go_simp; (try (with_reducible rfl)))
  try simp only [Act.put, List.getElem_toArray, List.getElem_cons_succ, List.getElem_cons_zero, List.setIfInBounds_toArray, List.set_cons_zero, List.set_cons_succ]
  -- 13
  refine' wpAnyH_take (i := 13) (v := ?v13) rfl (by kernel_rfl) (by kernel_rfl) (by kernel_rfl) (fun _ _ _ h => h) (Or.inl ⟨by rfl, ?y13⟩) (by first | assumption | exact Ext.eq hE (by exact ⟨rfl, rfl, rfl, rfl⟩)) ?r13
  case y13 => (intro w hSw; (try simp only [List.getElem_toArray, List.getElem_cons_succ, List.getElem_cons_zero]); (try dsimp only at hSw); go_simp; (try (with_reducible rfl)))
  try simp only [Act.put, List.getElem_toArray, List.getElem_cons_succ, List.getElem_cons_zero, List.setIfInBounds_toArray, List.set_cons_zero, List.set_cons_succ]
  -- 14
  refine' wpAnyH_take (i := 14) (v := ?v14) rfl (by kernel_rfl) (by kernel_rfl) (by kernel_rfl) (fun _ _ _ h => h) (Or.inl ⟨by rfl, ?y14⟩) (by first | assumption | exact Ext.eq hE (by exact ⟨rfl, rfl, rfl, rfl⟩)) ?r14
  case y14 => (intro w hSw; (try simp only [List.getElem_toArray, List.getElem_cons_succ, List.getElem_cons_zero]); (try dsimp only at hSw); go_simp; (try (with_reducible rfl)))
  try simp only [Act.put, List.getElem_toArray, List.getElem_cons_succ, List.getElem_cons_zero, List.setIfInBounds_toArray, List.set_cons_zero, List.set_cons_succ]
  -- 15
  refine' wpAnyH_take (i := 15) (v := ?v15) rfl (by kernel_rfl) (by kernel_rfl) (by kernel_rfl) (fun _ _ _ h => h) (Or.inl ⟨by rfl, ?y15⟩) (by first | assumption | exact Ext.eq hE (by exact ⟨rfl, rfl, rfl, rfl⟩)) ?r15
  case y15 => (intro w hSw; (try simp only [List.getElem_toArray, List.getElem_cons_succ, List.getElem_cons_zero]); (try dsimp only at hSw); go_simp; (try (with_reducible rfl)))
  try simp only [Act.put, List.getElem_toArray, List.getElem_cons_succ, List.getElem_cons_zero, List.setIfInBounds_toArray, List.set_cons_zero, List.set_cons_succ]
  -- 16
  refine' wpAnyH_take (i := 16) (v := ?v16) rfl (by kernel_rfl) (by kernel_rfl) (by kernel_rfl) (fun _ _ _ h => h) (Or.inl ⟨by rfl, ?y16⟩) (by first | assumption | exact Ext.eq hE (by exact ⟨rfl, rfl, rfl, rfl⟩)) ?r16
  case y16 => (intro w hSw; (try simp only [List.getElem_toArray, List.getElem_cons_succ, List.getElem_cons_zero]); (try dsimp only at hSw); go_simp; (try (with_reducible rfl)))
  try simp only [Act.put, List.getElem_toArray, List.getElem_cons_succ, List.getElem_cons_zero, List.setIfInBounds_toArray, List.set_cons_zero, List.set_cons_succ]
  -- 17
  refine' wpAnyH_take (i := 17) (v := ?v17) rfl (by kernel_rfl) (by kernel_rfl) (by kernel_rfl) (fun _ _ _ h => h) (Or.inl ⟨by rfl, ?y17⟩) (by first | assumption | exact Ext.eq hE (by exact ⟨rfl, rfl, rfl, rfl⟩)) ?r17
  case y17 => (intro w hSw; (try simp only [List.getElem_toArray, List.getElem_cons_succ, List.getElem_cons_zero]); (try dsimp only at hSw); go_simp; (try (with_reducible rfl)))
  try simp only [Act.put, List.getElem_toArray, List.getElem_cons_succ, List.getElem_cons_zero, List.setIfInBounds_toArray, List.set_cons_zero, List.set_cons_succ]
  -- 18
  refine' wpAnyH_take (i := 18) (v := ?v18) rfl (by kernel_rfl) (by kernel_rfl) (by kernel_rfl) (fun _ _ _ h => h) (Or.inl ⟨by rfl, ?y18⟩) (by first | assumption | exact Ext.eq hE (by exact ⟨rfl, rfl, rfl, rfl⟩)) ?r18
  case y18 => (intro w hSw; (try simp only [List.getElem_toArray, List.getElem_cons_succ, List.getElem_cons_zero]); (try dsimp only at hSw); go_simp; (try (with_reducible rfl)))
  try simp only [Act.put, List.getElem_toArray, List.getElem_cons_succ, List.getElem_cons_zero, List.setIfInBounds_toArray, List.set_cons_zero, List.set_cons_succ]
  -- 19
  refine' wpAnyH_take (i := 19) (v := ?v19) rfl (by kernel_rfl) (by kernel_rfl) (by kernel_rfl) (fun _ _ _ h => h) (Or.inl ⟨by rfl, ?y19⟩) (by first | assumption | exact Ext.eq hE (by exact ⟨rfl, rfl, rfl, rfl⟩)) ?r19
  case y19 => (intro w hSw; (try simp only [List.getElem_toArray, List.getElem_cons_succ, List.getElem_cons_zero]); (try dsimp only at hSw); go_simp; (try (with_reducible rfl)))
  try simp only [Act.put, List.getElem_toArray, List.getElem_cons_succ, List.getElem_cons_zero, List.setIfInBounds_toArray, List.set_cons_zero, List.set_cons_succ]
  refine wpAnyH_done (by kernel_rfl) ?_ _
  refine NoPanic.normal ?_
  go_wp2
  go_ret
  exact ⟨rfl, below_tr B1 (by first | exact hE | exact Ext.eq hE ⟨rfl, rfl, rfl, rfl⟩)⟩

set_option maxHeartbeats 4000000 in
theorem isaReads_601 (op b imm : Int) (w : World) (hb : 0 < b) (hr : rightB ⟨op, 0, 0, b, imm⟩ = true) (hf : form op = 6) (hl : readsL ⟨op, 0, 0, b, imm⟩ = [b]) :
    Calls Try.prog 9 #[.agg #[.int .i64 op, .int .i64 0, .int .i64 0, .int .i64 b, .int .i64 imm]] w fun e w' => e = .returned (.bool true) ∧ Below w.heap.size w w' := by
  have Hs := hid (fun w => reads_any ⟨op, 0, 0, b, imm⟩ w)
  have Hr := hid (fun w => refRight_any ⟨op, 0, 0, b, imm⟩ w)
  have Hw := hid (fun w => writes_any ⟨op, 0, 0, b, imm⟩ w)
  have Hf := hid (fun w => form_any op w)
  rw [hl] at Hs
  rw [writes_d ⟨op, 0, 0, b, imm⟩ hr] at Hw
  rw [hr] at Hr
  rw [hf] at Hf
  simp only [Ins.val] at Hs Hr Hw
  clear hr hf hl
  go_enter Try.func9, Try.ntmps9
  go_wp2_with fail
  refine (alive2_any _).mono ?_
  rintro e9 w1 ⟨rfl, b1⟩
  have x1 := (BoxI.new w op 0 0 b imm 23).below b1
  have B1 := below_tr (below_al (Below.refl _ _) _) b1
  obtain ⟨kx0, kx1, kx2, kx3, kx4⟩ := x1.ext
  have hE : Ext w1 w1 := Ext.refl w1
  have hA : ∀ o, Ext w1 (w1.alloc o) := fun o => below_al hE o
  clear b1 x1
  go_wp2_with fail
  refine (Hs.out _).mono ?_
  rintro e9 w9 ⟨v9, rfl, o9, b9⟩
  obtain ⟨A9, c9, e9, r9, q9⟩ := own_rd o9
  subst e9
  have hE' := Ext.tr hE b9 (by exact ⟨rfl, rfl, rfl, rfl⟩)
  clear hE b9 hA o9
  have hE := hE'
  clear hE'
  go_wp2_with fail
  refine (Hr.out _).mono ?_
  rintro e9 w2 ⟨rfl, b9⟩
  replace r9 := r9.below b9
  have hE' := Ext.tr hE b9 (by exact ⟨rfl, rfl, rfl, rfl⟩)
  clear hE b9
  have hE := hE'
  clear hE'
  go_wp2_with fail
  refine (Hf.out _).mono ?_
  rintro e9 w9 ⟨rfl, rfl⟩
  have hA : ∀ o, Ext w1 (w2.alloc o) := fun o => below_al hE o
  go_wp2_with (at_builtin; refine wpl_append w2.heap.size rfl 33 3 (.int .i64 0) 1 8 Try.underlying33 (by kernel_rfl) rfl (by omega) (by omega) _ 0 [] (own_nil _ _ _ _) (some ⟨w2.heap.size, 0, none⟩) 1 1 [.int .i64 b] rfl (rd_new _ _ _) (by simp) (one_cell _) (by omega) (by simp) ?_)
  intro v3 w3 o3 g3 b3
  have k3 : Below w2.heap.size w2 w3 := (below_al (Below.refl _ _) _).grown g3 (by simp) (by intro k hk; simp [Value.ownBlock] at hk)
  replace r9 := r9.below k3
  have hE' := Ext.tr hE k3 (by exact ⟨rfl, rfl, rfl, rfl⟩)
  clear hE hA g3 b3
  have hE := hE'
  clear hE'
  obtain ⟨A3, c3, e3, r3, q3⟩ := own_rd o3
  subst e3
  clear o3
  go_wp2_with fail
  have hS : ∀ W, Eqw W w3 → Calls Try.prog 19 #[.slice A9 1 c9, .slice A3 1 c3] W fun e w' => e = .returned (.bool true) ∧ Drw W w' := fun W hW => same_eq [b] 1 rfl A9 A3 c9 c3 W (by omega) (r9.eqw hW) (r3.eqw hW)
  have HS := hid hS
  clear hS r9 r3
  refine wp_region_held_np (S := fun W => Ext w1 W) 20 rfl (by kernel_rfl) ?_
  -- 0
  refine' wpAnyH_take (i := 0) (v := ?v0) rfl (by kernel_rfl) (by kernel_rfl) (by kernel_rfl) (fun _ _ _ h => h) (Or.inl ⟨by rfl, ?y0⟩) (by first | assumption | exact Ext.eq hE (by exact ⟨rfl, rfl, rfl, rfl⟩)) ?r0
  case y0 => (intro w hSw; (try simp only [List.getElem_toArray, List.getElem_cons_succ, List.getElem_cons_zero]); (try dsimp only at hSw); go_simp; (try (with_reducible rfl)))
  try simp only [Act.put, List.getElem_toArray, List.getElem_cons_succ, List.getElem_cons_zero, List.setIfInBounds_toArray, List.set_cons_zero, List.set_cons_succ]
  -- 1
  refine' wpAnyH_take (i := 1) (v := ?v1) rfl (by kernel_rfl) (by kernel_rfl) (by kernel_rfl) (fun _ _ _ h => h) (Or.inl ⟨by rfl, ?y1⟩) (by first | assumption | exact Ext.eq hE (by exact ⟨rfl, rfl, rfl, rfl⟩)) ?r1
  case y1 => (intro w hSw; (try simp only [List.getElem_toArray, List.getElem_cons_succ, List.getElem_cons_zero]); (try dsimp only at hSw); go_simp; (try (with_reducible rfl)))
  try simp only [Act.put, List.getElem_toArray, List.getElem_cons_succ, List.getElem_cons_zero, List.setIfInBounds_toArray, List.set_cons_zero, List.set_cons_succ]
  -- effect 2
  refine wpAnyH_all (rs := [2]) (by kernel_rfl) (by simp) ?_
  intro i0 hi0
  obtain rfl : i0 = 2 := by simpa using hi0
  clear hi0
  refine wpOp_do rfl (by rfl) (fun K hK => ?_)
  simp only [List.getElem_toArray, List.getElem_cons_succ, List.getElem_cons_zero]
  go_simp
  refine (HS.out _ (by exact ⟨rfl, rfl, rfl, rfl⟩)).mono ?_
  rintro e9 w9 ⟨rfl, n9, rfl⟩
  refine hK _ _ ⟨Ext.eq hE (by exact ⟨rfl, rfl, rfl, rfl⟩), ?_⟩
  clear hK K
  try simp only [Act.put, List.getElem_toArray, List.getElem_cons_succ, List.getElem_cons_zero, List.setIfInBounds_toArray, List.set_cons_zero, List.set_cons_succ]
  -- 3
  refine' wpAnyH_take (i := 3) (v := ?v3) rfl (by kernel_rfl) (by kernel_rfl) (by kernel_rfl) (fun _ _ _ h => h) (Or.inl ⟨by rfl, ?y3⟩) (by first | assumption | exact Ext.eq hE (by exact ⟨rfl, rfl, rfl, rfl⟩)) ?r3
  case y3 => (intro w hSw; (try simp only [List.getElem_toArray, List.getElem_cons_succ, List.getElem_cons_zero]); (try dsimp only at hSw); go_simp; (try (with_reducible rfl)))
  try simp only [Act.put, List.getElem_toArray, List.getElem_cons_succ, List.getElem_cons_zero, List.setIfInBounds_toArray, List.set_cons_zero, List.set_cons_succ]
  -- 4
  refine' wpAnyH_take (i := 4) (v := ?v4) rfl (by kernel_rfl) (by kernel_rfl) (by kernel_rfl) (fun _ _ _ h => h) (Or.inl ⟨by rfl, ?y4⟩) (by first | assumption | exact Ext.eq hE (by exact ⟨rfl, rfl, rfl, rfl⟩)) ?r4
  case y4 => (intro w hSw; (try simp only [List.getElem_toArray, List.getElem_cons_succ, List.getElem_cons_zero]); (try dsimp only at hSw); go_simp; (try (with_reducible rfl)))
  try simp only [Act.put, List.getElem_toArray, List.getElem_cons_succ, List.getElem_cons_zero, List.setIfInBounds_toArray, List.set_cons_zero, List.set_cons_succ]
  -- 6
  refine' wpAnyH_take (i := 6) (v := ?v6) rfl (by kernel_rfl) (by kernel_rfl) (by kernel_rfl) (fun _ _ _ h => h) (Or.inl ⟨by rfl, ?y6⟩) (by first | assumption | exact Ext.eq hE (by exact ⟨rfl, rfl, rfl, rfl⟩)) ?r6
  case y6 => (intro w hSw; (try simp only [List.getElem_toArray, List.getElem_cons_succ, List.getElem_cons_zero]); (try dsimp only at hSw); go_simp; (try (with_reducible rfl)))
  try simp only [Act.put, List.getElem_toArray, List.getElem_cons_succ, List.getElem_cons_zero, List.setIfInBounds_toArray, List.set_cons_zero, List.set_cons_succ]
  -- 7
  refine' wpAnyH_take (i := 7) (v := ?v7) rfl (by kernel_rfl) (by kernel_rfl) (by kernel_rfl) (fun _ _ _ h => h) (Or.inl ⟨by rfl, ?y7⟩) (by first | assumption | exact Ext.eq hE (by exact ⟨rfl, rfl, rfl, rfl⟩)) ?r7
  case y7 => (intro w hSw; (try simp only [List.getElem_toArray, List.getElem_cons_succ, List.getElem_cons_zero]); (try dsimp only at hSw); go_simp; (try (with_reducible rfl)))
  try simp only [Act.put, List.getElem_toArray, List.getElem_cons_succ, List.getElem_cons_zero, List.setIfInBounds_toArray, List.set_cons_zero, List.set_cons_succ]
  -- effect 5
  refine wpAnyH_all (rs := [5]) (by kernel_rfl) (by simp) ?_
  intro i0 hi0
  obtain rfl : i0 = 5 := by simpa using hi0
  clear hi0
  refine wpOp_do rfl (by rfl) (fun K hK => ?_)
  simp only [List.getElem_toArray, List.getElem_cons_succ, List.getElem_cons_zero]
  go_simp
  refine (Hw.out _).mono ?_
  rintro e9 w9 ⟨rfl, b9⟩
  have hE' := Ext.tr hE b9 (by exact ⟨rfl, rfl, rfl, rfl⟩)
  refine hK _ _ ⟨hE', ?_⟩
  clear hK K hE b9
  have hE := hE'
  clear hE'
  try simp only [Act.put, List.getElem_toArray, List.getElem_cons_succ, List.getElem_cons_zero, List.setIfInBounds_toArray, List.set_cons_zero, List.set_cons_succ]
  -- 8
  refine' wpAnyH_take (i := 8) (v := ?v8) rfl (by kernel_rfl) (by kernel_rfl) (by kernel_rfl) (fun _ _ _ h => h) (Or.inl ⟨by rfl, ?y8⟩) (by first | assumption | exact Ext.eq hE (by exact ⟨rfl, rfl, rfl, rfl⟩)) ?r8
  case y8 => (intro w hSw; (try simp only [List.getElem_toArray, List.getElem_cons_succ, List.getElem_cons_zero]); (try dsimp only at hSw); go_simp; (try (with_reducible rfl)))
  try simp only [Act.put, List.getElem_toArray, List.getElem_cons_succ, List.getElem_cons_zero, List.setIfInBounds_toArray, List.set_cons_zero, List.set_cons_succ]
  -- 9
  refine' wpAnyH_take (i := 9) (v := ?v9) rfl (by kernel_rfl) (by kernel_rfl) (by kernel_rfl) (fun _ _ _ h => h) (Or.inl ⟨by rfl, ?y9⟩) (by first | assumption | exact Ext.eq hE (by exact ⟨rfl, rfl, rfl, rfl⟩)) ?r9
  case y9 => (intro w hSw; (try simp only [List.getElem_toArray, List.getElem_cons_succ, List.getElem_cons_zero]); (try dsimp only at hSw); go_simp; (try (with_reducible rfl)))
  try simp only [Act.put, List.getElem_toArray, List.getElem_cons_succ, List.getElem_cons_zero, List.setIfInBounds_toArray, List.set_cons_zero, List.set_cons_succ]
  -- 10
  refine' wpAnyH_take (i := 10) (v := ?v10) rfl (by kernel_rfl) (by kernel_rfl) (by kernel_rfl) (fun _ _ _ h => h) (Or.inl ⟨by rfl, ?y10⟩) (by first | assumption | exact Ext.eq hE (by exact ⟨rfl, rfl, rfl, rfl⟩)) ?r10
  case y10 => (intro w hSw; (try simp only [List.getElem_toArray, List.getElem_cons_succ, List.getElem_cons_zero]); (try dsimp only at hSw); go_simp; (try (with_reducible rfl)))
  try simp only [Act.put, List.getElem_toArray, List.getElem_cons_succ, List.getElem_cons_zero, List.setIfInBounds_toArray, List.set_cons_zero, List.set_cons_succ]
  -- 11
  refine' wpAnyH_take (i := 11) (v := ?v11) rfl (by kernel_rfl) (by kernel_rfl) (by kernel_rfl) (fun _ _ _ h => h) (Or.inl ⟨by rfl, ?y11⟩) (by first | assumption | exact Ext.eq hE (by exact ⟨rfl, rfl, rfl, rfl⟩)) ?r11
  case y11 => (intro w hSw; (try simp only [List.getElem_toArray, List.getElem_cons_succ, List.getElem_cons_zero]); (try dsimp only at hSw); go_simp; (try (with_reducible rfl)))
  try simp only [Act.put, List.getElem_toArray, List.getElem_cons_succ, List.getElem_cons_zero, List.setIfInBounds_toArray, List.set_cons_zero, List.set_cons_succ]
  -- 12
  refine' wpAnyH_take (i := 12) (v := ?v12) rfl (by kernel_rfl) (by kernel_rfl) (by kernel_rfl) (fun _ _ _ h => h) (Or.inl ⟨by rfl, ?y12⟩) (by first | assumption | exact Ext.eq hE (by exact ⟨rfl, rfl, rfl, rfl⟩)) ?r12
  case y12 => (intro w hSw; (try simp only [List.getElem_toArray, List.getElem_cons_succ, List.getElem_cons_zero]); (try dsimp only at hSw); go_simp; (try (with_reducible rfl)))
  try simp only [Act.put, List.getElem_toArray, List.getElem_cons_succ, List.getElem_cons_zero, List.setIfInBounds_toArray, List.set_cons_zero, List.set_cons_succ]
  -- 13
  refine' wpAnyH_take (i := 13) (v := ?v13) rfl (by kernel_rfl) (by kernel_rfl) (by kernel_rfl) (fun _ _ _ h => h) (Or.inl ⟨by rfl, ?y13⟩) (by first | assumption | exact Ext.eq hE (by exact ⟨rfl, rfl, rfl, rfl⟩)) ?r13
  case y13 => (intro w hSw; (try simp only [List.getElem_toArray, List.getElem_cons_succ, List.getElem_cons_zero]); (try dsimp only at hSw); go_simp; (try (with_reducible rfl)))
  try simp only [Act.put, List.getElem_toArray, List.getElem_cons_succ, List.getElem_cons_zero, List.setIfInBounds_toArray, List.set_cons_zero, List.set_cons_succ]
  -- 14
  refine' wpAnyH_take (i := 14) (v := ?v14) rfl (by kernel_rfl) (by kernel_rfl) (by kernel_rfl) (fun _ _ _ h => h) (Or.inl ⟨by rfl, ?y14⟩) (by first | assumption | exact Ext.eq hE (by exact ⟨rfl, rfl, rfl, rfl⟩)) ?r14
  case y14 => (intro w hSw; (try simp only [List.getElem_toArray, List.getElem_cons_succ, List.getElem_cons_zero]); (try dsimp only at hSw); go_simp; (try (with_reducible rfl)))
  try simp only [Act.put, List.getElem_toArray, List.getElem_cons_succ, List.getElem_cons_zero, List.setIfInBounds_toArray, List.set_cons_zero, List.set_cons_succ]
  -- 15
  refine' wpAnyH_take (i := 15) (v := ?v15) rfl (by kernel_rfl) (by kernel_rfl) (by kernel_rfl) (fun _ _ _ h => h) (Or.inl ⟨by rfl, ?y15⟩) (by first | assumption | exact Ext.eq hE (by exact ⟨rfl, rfl, rfl, rfl⟩)) ?r15
  case y15 => (intro w hSw; (try simp only [List.getElem_toArray, List.getElem_cons_succ, List.getElem_cons_zero]); (try dsimp only at hSw); go_simp; (try (with_reducible rfl)))
  try simp only [Act.put, List.getElem_toArray, List.getElem_cons_succ, List.getElem_cons_zero, List.setIfInBounds_toArray, List.set_cons_zero, List.set_cons_succ]
  -- 16
  refine' wpAnyH_take (i := 16) (v := ?v16) rfl (by kernel_rfl) (by kernel_rfl) (by kernel_rfl) (fun _ _ _ h => h) (Or.inl ⟨by rfl, ?y16⟩) (by first | assumption | exact Ext.eq hE (by exact ⟨rfl, rfl, rfl, rfl⟩)) ?r16
  case y16 => (intro w hSw; (try simp only [List.getElem_toArray, List.getElem_cons_succ, List.getElem_cons_zero]); (try dsimp only at hSw); go_simp; (try (with_reducible rfl)))
  try simp only [Act.put, List.getElem_toArray, List.getElem_cons_succ, List.getElem_cons_zero, List.setIfInBounds_toArray, List.set_cons_zero, List.set_cons_succ]
  -- 17
  refine' wpAnyH_take (i := 17) (v := ?v17) rfl (by kernel_rfl) (by kernel_rfl) (by kernel_rfl) (fun _ _ _ h => h) (Or.inl ⟨by rfl, ?y17⟩) (by first | assumption | exact Ext.eq hE (by exact ⟨rfl, rfl, rfl, rfl⟩)) ?r17
  case y17 => (intro w hSw; (try simp only [List.getElem_toArray, List.getElem_cons_succ, List.getElem_cons_zero]); (try dsimp only at hSw); go_simp; (try (with_reducible rfl)))
  try simp only [Act.put, List.getElem_toArray, List.getElem_cons_succ, List.getElem_cons_zero, List.setIfInBounds_toArray, List.set_cons_zero, List.set_cons_succ]
  -- 18
  refine' wpAnyH_take (i := 18) (v := ?v18) rfl (by kernel_rfl) (by kernel_rfl) (by kernel_rfl) (fun _ _ _ h => h) (Or.inl ⟨by rfl, ?y18⟩) (by first | assumption | exact Ext.eq hE (by exact ⟨rfl, rfl, rfl, rfl⟩)) ?r18
  case y18 => (intro w hSw; (try simp only [List.getElem_toArray, List.getElem_cons_succ, List.getElem_cons_zero]); (try dsimp only at hSw); go_simp; (try (with_reducible rfl)))
  try simp only [Act.put, List.getElem_toArray, List.getElem_cons_succ, List.getElem_cons_zero, List.setIfInBounds_toArray, List.set_cons_zero, List.set_cons_succ]
  -- 19
  refine' wpAnyH_take (i := 19) (v := ?v19) rfl (by kernel_rfl) (by kernel_rfl) (by kernel_rfl) (fun _ _ _ h => h) (Or.inl ⟨by rfl, ?y19⟩) (by first | assumption | exact Ext.eq hE (by exact ⟨rfl, rfl, rfl, rfl⟩)) ?r19
  case y19 => (intro w hSw; (try simp only [List.getElem_toArray, List.getElem_cons_succ, List.getElem_cons_zero]); (try dsimp only at hSw); go_simp; (try (with_reducible rfl)))
  try simp only [Act.put, List.getElem_toArray, List.getElem_cons_succ, List.getElem_cons_zero, List.setIfInBounds_toArray, List.set_cons_zero, List.set_cons_succ]
  refine wpAnyH_done (by kernel_rfl) ?_ _
  refine NoPanic.normal ?_
  go_wp2
  go_ret
  exact ⟨rfl, below_tr B1 (by first | exact hE | exact Ext.eq hE ⟨rfl, rfl, rfl, rfl⟩)⟩

set_option maxHeartbeats 4000000 in
theorem isaReads_610 (op a imm : Int) (w : World) (ha : 0 < a) (hr : rightB ⟨op, 0, a, 0, imm⟩ = true) (hf : form op = 6) (hl : readsL ⟨op, 0, a, 0, imm⟩ = [a]) :
    Calls Try.prog 9 #[.agg #[.int .i64 op, .int .i64 0, .int .i64 a, .int .i64 0, .int .i64 imm]] w fun e w' => e = .returned (.bool true) ∧ Below w.heap.size w w' := by
  have Hs := hid (fun w => reads_any ⟨op, 0, a, 0, imm⟩ w)
  have Hr := hid (fun w => refRight_any ⟨op, 0, a, 0, imm⟩ w)
  have Hw := hid (fun w => writes_any ⟨op, 0, a, 0, imm⟩ w)
  have Hf := hid (fun w => form_any op w)
  rw [hl] at Hs
  rw [writes_d ⟨op, 0, a, 0, imm⟩ hr] at Hw
  rw [hr] at Hr
  rw [hf] at Hf
  simp only [Ins.val] at Hs Hr Hw
  clear hr hf hl
  go_enter Try.func9, Try.ntmps9
  go_wp2_with fail
  refine (alive2_any _).mono ?_
  rintro e9 w1 ⟨rfl, b1⟩
  have x1 := (BoxI.new w op 0 a 0 imm 23).below b1
  have B1 := below_tr (below_al (Below.refl _ _) _) b1
  obtain ⟨kx0, kx1, kx2, kx3, kx4⟩ := x1.ext
  have hE : Ext w1 w1 := Ext.refl w1
  have hA : ∀ o, Ext w1 (w1.alloc o) := fun o => below_al hE o
  clear b1 x1
  go_wp2_with fail
  refine (Hs.out _).mono ?_
  rintro e9 w9 ⟨v9, rfl, o9, b9⟩
  obtain ⟨A9, c9, e9, r9, q9⟩ := own_rd o9
  subst e9
  have hE' := Ext.tr hE b9 (by exact ⟨rfl, rfl, rfl, rfl⟩)
  clear hE b9 hA o9
  have hE := hE'
  clear hE'
  go_wp2_with fail
  refine (Hr.out _).mono ?_
  rintro e9 w2 ⟨rfl, b9⟩
  replace r9 := r9.below b9
  have hE' := Ext.tr hE b9 (by exact ⟨rfl, rfl, rfl, rfl⟩)
  clear hE b9
  have hE := hE'
  clear hE'
  go_wp2_with fail
  refine (Hf.out _).mono ?_
  rintro e9 w9 ⟨rfl, rfl⟩
  have hA : ∀ o, Ext w1 (w2.alloc o) := fun o => below_al hE o
  go_wp2_with (at_builtin; refine wpl_append w2.heap.size rfl 33 3 (.int .i64 0) 1 8 Try.underlying33 (by kernel_rfl) rfl (by omega) (by omega) _ 0 [] (own_nil _ _ _ _) (some ⟨w2.heap.size, 0, none⟩) 1 1 [.int .i64 a] rfl (rd_new _ _ _) (by simp) (one_cell _) (by omega) (by simp) ?_)
  intro v3 w3 o3 g3 b3
  have k3 : Below w2.heap.size w2 w3 := (below_al (Below.refl _ _) _).grown g3 (by simp) (by intro k hk; simp [Value.ownBlock] at hk)
  replace r9 := r9.below k3
  have hE' := Ext.tr hE k3 (by exact ⟨rfl, rfl, rfl, rfl⟩)
  clear hE hA g3 b3
  have hE := hE'
  clear hE'
  obtain ⟨A3, c3, e3, r3, q3⟩ := own_rd o3
  subst e3
  clear o3
  go_wp2_with fail
  have hS : ∀ W, Eqw W w3 → Calls Try.prog 19 #[.slice A9 1 c9, .slice A3 1 c3] W fun e w' => e = .returned (.bool true) ∧ Drw W w' := fun W hW => same_eq [a] 1 rfl A9 A3 c9 c3 W (by omega) (r9.eqw hW) (r3.eqw hW)
  have HS := hid hS
  clear hS r9 r3
  refine wp_region_held_np (S := fun W => Ext w1 W) 20 rfl (by kernel_rfl) ?_
  -- 0
  refine' wpAnyH_take (i := 0) (v := ?v0) rfl (by kernel_rfl) (by kernel_rfl) (by kernel_rfl) (fun _ _ _ h => h) (Or.inl ⟨by rfl, ?y0⟩) (by first | assumption | exact Ext.eq hE (by exact ⟨rfl, rfl, rfl, rfl⟩)) ?r0
  case y0 => (intro w hSw; (try simp only [List.getElem_toArray, List.getElem_cons_succ, List.getElem_cons_zero]); (try dsimp only at hSw); go_simp; (try (with_reducible rfl)))
  try simp only [Act.put, List.getElem_toArray, List.getElem_cons_succ, List.getElem_cons_zero, List.setIfInBounds_toArray, List.set_cons_zero, List.set_cons_succ]
  -- 1
  refine' wpAnyH_take (i := 1) (v := ?v1) rfl (by kernel_rfl) (by kernel_rfl) (by kernel_rfl) (fun _ _ _ h => h) (Or.inl ⟨by rfl, ?y1⟩) (by first | assumption | exact Ext.eq hE (by exact ⟨rfl, rfl, rfl, rfl⟩)) ?r1
  case y1 => (intro w hSw; (try simp only [List.getElem_toArray, List.getElem_cons_succ, List.getElem_cons_zero]); (try dsimp only at hSw); go_simp; (try (with_reducible rfl)))
  try simp only [Act.put, List.getElem_toArray, List.getElem_cons_succ, List.getElem_cons_zero, List.setIfInBounds_toArray, List.set_cons_zero, List.set_cons_succ]
  -- effect 2
  refine wpAnyH_all (rs := [2]) (by kernel_rfl) (by simp) ?_
  intro i0 hi0
  obtain rfl : i0 = 2 := by simpa using hi0
  clear hi0
  refine wpOp_do rfl (by rfl) (fun K hK => ?_)
  simp only [List.getElem_toArray, List.getElem_cons_succ, List.getElem_cons_zero]
  go_simp
  refine (HS.out _ (by exact ⟨rfl, rfl, rfl, rfl⟩)).mono ?_
  rintro e9 w9 ⟨rfl, n9, rfl⟩
  refine hK _ _ ⟨Ext.eq hE (by exact ⟨rfl, rfl, rfl, rfl⟩), ?_⟩
  clear hK K
  try simp only [Act.put, List.getElem_toArray, List.getElem_cons_succ, List.getElem_cons_zero, List.setIfInBounds_toArray, List.set_cons_zero, List.set_cons_succ]
  -- 3
  refine' wpAnyH_take (i := 3) (v := ?v3) rfl (by kernel_rfl) (by kernel_rfl) (by kernel_rfl) (fun _ _ _ h => h) (Or.inl ⟨by rfl, ?y3⟩) (by first | assumption | exact Ext.eq hE (by exact ⟨rfl, rfl, rfl, rfl⟩)) ?r3
  case y3 => (intro w hSw; (try simp only [List.getElem_toArray, List.getElem_cons_succ, List.getElem_cons_zero]); (try dsimp only at hSw); go_simp; (try (with_reducible rfl)))
  try simp only [Act.put, List.getElem_toArray, List.getElem_cons_succ, List.getElem_cons_zero, List.setIfInBounds_toArray, List.set_cons_zero, List.set_cons_succ]
  -- 4
  refine' wpAnyH_take (i := 4) (v := ?v4) rfl (by kernel_rfl) (by kernel_rfl) (by kernel_rfl) (fun _ _ _ h => h) (Or.inl ⟨by rfl, ?y4⟩) (by first | assumption | exact Ext.eq hE (by exact ⟨rfl, rfl, rfl, rfl⟩)) ?r4
  case y4 => (intro w hSw; (try simp only [List.getElem_toArray, List.getElem_cons_succ, List.getElem_cons_zero]); (try dsimp only at hSw); go_simp; (try (with_reducible rfl)))
  try simp only [Act.put, List.getElem_toArray, List.getElem_cons_succ, List.getElem_cons_zero, List.setIfInBounds_toArray, List.set_cons_zero, List.set_cons_succ]
  -- 6
  refine' wpAnyH_take (i := 6) (v := ?v6) rfl (by kernel_rfl) (by kernel_rfl) (by kernel_rfl) (fun _ _ _ h => h) (Or.inl ⟨by rfl, ?y6⟩) (by first | assumption | exact Ext.eq hE (by exact ⟨rfl, rfl, rfl, rfl⟩)) ?r6
  case y6 => (intro w hSw; (try simp only [List.getElem_toArray, List.getElem_cons_succ, List.getElem_cons_zero]); (try dsimp only at hSw); go_simp; (try (with_reducible rfl)))
  try simp only [Act.put, List.getElem_toArray, List.getElem_cons_succ, List.getElem_cons_zero, List.setIfInBounds_toArray, List.set_cons_zero, List.set_cons_succ]
  -- 7
  refine' wpAnyH_take (i := 7) (v := ?v7) rfl (by kernel_rfl) (by kernel_rfl) (by kernel_rfl) (fun _ _ _ h => h) (Or.inl ⟨by rfl, ?y7⟩) (by first | assumption | exact Ext.eq hE (by exact ⟨rfl, rfl, rfl, rfl⟩)) ?r7
  case y7 => (intro w hSw; (try simp only [List.getElem_toArray, List.getElem_cons_succ, List.getElem_cons_zero]); (try dsimp only at hSw); go_simp; (try (with_reducible rfl)))
  try simp only [Act.put, List.getElem_toArray, List.getElem_cons_succ, List.getElem_cons_zero, List.setIfInBounds_toArray, List.set_cons_zero, List.set_cons_succ]
  -- effect 5
  refine wpAnyH_all (rs := [5]) (by kernel_rfl) (by simp) ?_
  intro i0 hi0
  obtain rfl : i0 = 5 := by simpa using hi0
  clear hi0
  refine wpOp_do rfl (by rfl) (fun K hK => ?_)
  simp only [List.getElem_toArray, List.getElem_cons_succ, List.getElem_cons_zero]
  go_simp
  refine (Hw.out _).mono ?_
  rintro e9 w9 ⟨rfl, b9⟩
  have hE' := Ext.tr hE b9 (by exact ⟨rfl, rfl, rfl, rfl⟩)
  refine hK _ _ ⟨hE', ?_⟩
  clear hK K hE b9
  have hE := hE'
  clear hE'
  try simp only [Act.put, List.getElem_toArray, List.getElem_cons_succ, List.getElem_cons_zero, List.setIfInBounds_toArray, List.set_cons_zero, List.set_cons_succ]
  -- 8
  refine' wpAnyH_take (i := 8) (v := ?v8) rfl (by kernel_rfl) (by kernel_rfl) (by kernel_rfl) (fun _ _ _ h => h) (Or.inl ⟨by rfl, ?y8⟩) (by first | assumption | exact Ext.eq hE (by exact ⟨rfl, rfl, rfl, rfl⟩)) ?r8
  case y8 => (intro w hSw; (try simp only [List.getElem_toArray, List.getElem_cons_succ, List.getElem_cons_zero]); (try dsimp only at hSw); go_simp; (try (with_reducible rfl)))
  try simp only [Act.put, List.getElem_toArray, List.getElem_cons_succ, List.getElem_cons_zero, List.setIfInBounds_toArray, List.set_cons_zero, List.set_cons_succ]
  -- 9
  refine' wpAnyH_take (i := 9) (v := ?v9) rfl (by kernel_rfl) (by kernel_rfl) (by kernel_rfl) (fun _ _ _ h => h) (Or.inl ⟨by rfl, ?y9⟩) (by first | assumption | exact Ext.eq hE (by exact ⟨rfl, rfl, rfl, rfl⟩)) ?r9
  case y9 => (intro w hSw; (try simp only [List.getElem_toArray, List.getElem_cons_succ, List.getElem_cons_zero]); (try dsimp only at hSw); go_simp; (try (with_reducible rfl)))
  try simp only [Act.put, List.getElem_toArray, List.getElem_cons_succ, List.getElem_cons_zero, List.setIfInBounds_toArray, List.set_cons_zero, List.set_cons_succ]
  -- 10
  refine' wpAnyH_take (i := 10) (v := ?v10) rfl (by kernel_rfl) (by kernel_rfl) (by kernel_rfl) (fun _ _ _ h => h) (Or.inl ⟨by rfl, ?y10⟩) (by first | assumption | exact Ext.eq hE (by exact ⟨rfl, rfl, rfl, rfl⟩)) ?r10
  case y10 => (intro w hSw; (try simp only [List.getElem_toArray, List.getElem_cons_succ, List.getElem_cons_zero]); (try dsimp only at hSw); go_simp; (try (with_reducible rfl)))
  try simp only [Act.put, List.getElem_toArray, List.getElem_cons_succ, List.getElem_cons_zero, List.setIfInBounds_toArray, List.set_cons_zero, List.set_cons_succ]
  -- 11
  refine' wpAnyH_take (i := 11) (v := ?v11) rfl (by kernel_rfl) (by kernel_rfl) (by kernel_rfl) (fun _ _ _ h => h) (Or.inl ⟨by rfl, ?y11⟩) (by first | assumption | exact Ext.eq hE (by exact ⟨rfl, rfl, rfl, rfl⟩)) ?r11
  case y11 => (intro w hSw; (try simp only [List.getElem_toArray, List.getElem_cons_succ, List.getElem_cons_zero]); (try dsimp only at hSw); go_simp; (try (with_reducible rfl)))
  try simp only [Act.put, List.getElem_toArray, List.getElem_cons_succ, List.getElem_cons_zero, List.setIfInBounds_toArray, List.set_cons_zero, List.set_cons_succ]
  -- 12
  refine' wpAnyH_take (i := 12) (v := ?v12) rfl (by kernel_rfl) (by kernel_rfl) (by kernel_rfl) (fun _ _ _ h => h) (Or.inl ⟨by rfl, ?y12⟩) (by first | assumption | exact Ext.eq hE (by exact ⟨rfl, rfl, rfl, rfl⟩)) ?r12
  case y12 => (intro w hSw; (try simp only [List.getElem_toArray, List.getElem_cons_succ, List.getElem_cons_zero]); (try dsimp only at hSw); go_simp; (try (with_reducible rfl)))
  try simp only [Act.put, List.getElem_toArray, List.getElem_cons_succ, List.getElem_cons_zero, List.setIfInBounds_toArray, List.set_cons_zero, List.set_cons_succ]
  -- 13
  refine' wpAnyH_take (i := 13) (v := ?v13) rfl (by kernel_rfl) (by kernel_rfl) (by kernel_rfl) (fun _ _ _ h => h) (Or.inl ⟨by rfl, ?y13⟩) (by first | assumption | exact Ext.eq hE (by exact ⟨rfl, rfl, rfl, rfl⟩)) ?r13
  case y13 => (intro w hSw; (try simp only [List.getElem_toArray, List.getElem_cons_succ, List.getElem_cons_zero]); (try dsimp only at hSw); go_simp; (try (with_reducible rfl)))
  try simp only [Act.put, List.getElem_toArray, List.getElem_cons_succ, List.getElem_cons_zero, List.setIfInBounds_toArray, List.set_cons_zero, List.set_cons_succ]
  -- 14
  refine' wpAnyH_take (i := 14) (v := ?v14) rfl (by kernel_rfl) (by kernel_rfl) (by kernel_rfl) (fun _ _ _ h => h) (Or.inl ⟨by rfl, ?y14⟩) (by first | assumption | exact Ext.eq hE (by exact ⟨rfl, rfl, rfl, rfl⟩)) ?r14
  case y14 => (intro w hSw; (try simp only [List.getElem_toArray, List.getElem_cons_succ, List.getElem_cons_zero]); (try dsimp only at hSw); go_simp; (try (with_reducible rfl)))
  try simp only [Act.put, List.getElem_toArray, List.getElem_cons_succ, List.getElem_cons_zero, List.setIfInBounds_toArray, List.set_cons_zero, List.set_cons_succ]
  -- 15
  refine' wpAnyH_take (i := 15) (v := ?v15) rfl (by kernel_rfl) (by kernel_rfl) (by kernel_rfl) (fun _ _ _ h => h) (Or.inl ⟨by rfl, ?y15⟩) (by first | assumption | exact Ext.eq hE (by exact ⟨rfl, rfl, rfl, rfl⟩)) ?r15
  case y15 => (intro w hSw; (try simp only [List.getElem_toArray, List.getElem_cons_succ, List.getElem_cons_zero]); (try dsimp only at hSw); go_simp; (try (with_reducible rfl)))
  try simp only [Act.put, List.getElem_toArray, List.getElem_cons_succ, List.getElem_cons_zero, List.setIfInBounds_toArray, List.set_cons_zero, List.set_cons_succ]
  -- 16
  refine' wpAnyH_take (i := 16) (v := ?v16) rfl (by kernel_rfl) (by kernel_rfl) (by kernel_rfl) (fun _ _ _ h => h) (Or.inl ⟨by rfl, ?y16⟩) (by first | assumption | exact Ext.eq hE (by exact ⟨rfl, rfl, rfl, rfl⟩)) ?r16
  case y16 => (intro w hSw; (try simp only [List.getElem_toArray, List.getElem_cons_succ, List.getElem_cons_zero]); (try dsimp only at hSw); go_simp; (try (with_reducible rfl)))
  try simp only [Act.put, List.getElem_toArray, List.getElem_cons_succ, List.getElem_cons_zero, List.setIfInBounds_toArray, List.set_cons_zero, List.set_cons_succ]
  -- 17
  refine' wpAnyH_take (i := 17) (v := ?v17) rfl (by kernel_rfl) (by kernel_rfl) (by kernel_rfl) (fun _ _ _ h => h) (Or.inl ⟨by rfl, ?y17⟩) (by first | assumption | exact Ext.eq hE (by exact ⟨rfl, rfl, rfl, rfl⟩)) ?r17
  case y17 => (intro w hSw; (try simp only [List.getElem_toArray, List.getElem_cons_succ, List.getElem_cons_zero]); (try dsimp only at hSw); go_simp; (try (with_reducible rfl)))
  try simp only [Act.put, List.getElem_toArray, List.getElem_cons_succ, List.getElem_cons_zero, List.setIfInBounds_toArray, List.set_cons_zero, List.set_cons_succ]
  -- 18
  refine' wpAnyH_take (i := 18) (v := ?v18) rfl (by kernel_rfl) (by kernel_rfl) (by kernel_rfl) (fun _ _ _ h => h) (Or.inl ⟨by rfl, ?y18⟩) (by first | assumption | exact Ext.eq hE (by exact ⟨rfl, rfl, rfl, rfl⟩)) ?r18
  case y18 => (intro w hSw; (try simp only [List.getElem_toArray, List.getElem_cons_succ, List.getElem_cons_zero]); (try dsimp only at hSw); go_simp; (try (with_reducible rfl)))
  try simp only [Act.put, List.getElem_toArray, List.getElem_cons_succ, List.getElem_cons_zero, List.setIfInBounds_toArray, List.set_cons_zero, List.set_cons_succ]
  -- 19
  refine' wpAnyH_take (i := 19) (v := ?v19) rfl (by kernel_rfl) (by kernel_rfl) (by kernel_rfl) (fun _ _ _ h => h) (Or.inl ⟨by rfl, ?y19⟩) (by first | assumption | exact Ext.eq hE (by exact ⟨rfl, rfl, rfl, rfl⟩)) ?r19
  case y19 => (intro w hSw; (try simp only [List.getElem_toArray, List.getElem_cons_succ, List.getElem_cons_zero]); (try dsimp only at hSw); go_simp; (try (with_reducible rfl)))
  try simp only [Act.put, List.getElem_toArray, List.getElem_cons_succ, List.getElem_cons_zero, List.setIfInBounds_toArray, List.set_cons_zero, List.set_cons_succ]
  refine wpAnyH_done (by kernel_rfl) ?_ _
  refine NoPanic.normal ?_
  go_wp2
  go_ret
  exact ⟨rfl, below_tr B1 (by first | exact hE | exact Ext.eq hE ⟨rfl, rfl, rfl, rfl⟩)⟩

set_option maxHeartbeats 4000000 in
theorem isaReads_611 (op a b imm : Int) (w : World) (ha : 0 < a) (hb : 0 < b) (hr : rightB ⟨op, 0, a, b, imm⟩ = true) (hf : form op = 6) (hl : readsL ⟨op, 0, a, b, imm⟩ = [a, b]) :
    Calls Try.prog 9 #[.agg #[.int .i64 op, .int .i64 0, .int .i64 a, .int .i64 b, .int .i64 imm]] w fun e w' => e = .returned (.bool true) ∧ Below w.heap.size w w' := by
  have Hs := hid (fun w => reads_any ⟨op, 0, a, b, imm⟩ w)
  have Hr := hid (fun w => refRight_any ⟨op, 0, a, b, imm⟩ w)
  have Hw := hid (fun w => writes_any ⟨op, 0, a, b, imm⟩ w)
  have Hf := hid (fun w => form_any op w)
  rw [hl] at Hs
  rw [writes_d ⟨op, 0, a, b, imm⟩ hr] at Hw
  rw [hr] at Hr
  rw [hf] at Hf
  simp only [Ins.val] at Hs Hr Hw
  clear hr hf hl
  go_enter Try.func9, Try.ntmps9
  go_wp2_with fail
  refine (alive2_any _).mono ?_
  rintro e9 w1 ⟨rfl, b1⟩
  have x1 := (BoxI.new w op 0 a b imm 23).below b1
  have B1 := below_tr (below_al (Below.refl _ _) _) b1
  obtain ⟨kx0, kx1, kx2, kx3, kx4⟩ := x1.ext
  have hE : Ext w1 w1 := Ext.refl w1
  have hA : ∀ o, Ext w1 (w1.alloc o) := fun o => below_al hE o
  clear b1 x1
  go_wp2_with fail
  refine (Hs.out _).mono ?_
  rintro e9 w9 ⟨v9, rfl, o9, b9⟩
  obtain ⟨A9, c9, e9, r9, q9⟩ := own_rd o9
  subst e9
  have hE' := Ext.tr hE b9 (by exact ⟨rfl, rfl, rfl, rfl⟩)
  clear hE b9 hA o9
  have hE := hE'
  clear hE'
  go_wp2_with fail
  refine (Hr.out _).mono ?_
  rintro e9 w2 ⟨rfl, b9⟩
  replace r9 := r9.below b9
  have hE' := Ext.tr hE b9 (by exact ⟨rfl, rfl, rfl, rfl⟩)
  clear hE b9
  have hE := hE'
  clear hE'
  go_wp2_with fail
  refine (Hf.out _).mono ?_
  rintro e9 w9 ⟨rfl, rfl⟩
  have hA : ∀ o, Ext w1 (w2.alloc o) := fun o => below_al hE o
  go_wp2_with (at_builtin; refine wpl_append w2.heap.size rfl 33 3 (.int .i64 0) 1 8 Try.underlying33 (by kernel_rfl) rfl (by omega) (by omega) _ 0 [] (own_nil _ _ _ _) (some ⟨w2.heap.size, 0, none⟩) 1 1 [.int .i64 a] rfl (rd_new _ _ _) (by simp) (one_cell _) (by omega) (by simp) ?_)
  intro v3 w3 o3 g3 b3
  have k3 : Below w2.heap.size w2 w3 := (below_al (Below.refl _ _) _).grown g3 (by simp) (by intro k hk; simp [Value.ownBlock] at hk)
  have hE2 := hE
  have hE' := Ext.tr hE k3 (by exact ⟨rfl, rfl, rfl, rfl⟩)
  clear hE hA g3 b3
  have hA : ∀ o, Ext w1 (w3.alloc o) := fun o => below_al hE' o
  go_wp2_with (at_builtin; refine wpl_append w2.heap.size rfl 33 3 (.int .i64 0) 1 8 Try.underlying33 (by kernel_rfl) rfl (by omega) (by omega) _ 1 [.int .i64 a] (o3.alloc _) (some ⟨w3.heap.size, 0, none⟩) 1 1 [.int .i64 b] rfl (rd_new _ _ _) (by simp) (one_cell _) (by omega) (by have := k3.size; simp; omega) ?_)
  intro v4 w4 o4 g4 b4
  have k4 : Below w2.heap.size w2 w4 := (below_al k3 _).grown g4 (by have := k3.size; simp; omega) (own_base o3)
  have hE := Ext.tr hE2 k4 (by exact ⟨rfl, rfl, rfl, rfl⟩)
  replace r9 := r9.below k4
  clear hA hE' hE2 g4 b4 k3 k4 o3
  obtain ⟨A3, c3, e3, r3, q3⟩ := own_rd o4
  subst e3
  clear o4
  go_wp2_with fail
  have hS : ∀ W, Eqw W w4 → Calls Try.prog 19 #[.slice A9 2 c9, .slice A3 2 c3] W fun e w' => e = .returned (.bool true) ∧ Drw W w' := fun W hW => same_eq [a, b] 2 rfl A9 A3 c9 c3 W (by omega) (r9.eqw hW) (r3.eqw hW)
  have HS := hid hS
  clear hS r9 r3
  refine wp_region_held_np (S := fun W => Ext w1 W) 20 rfl (by kernel_rfl) ?_
  -- 0
  refine' wpAnyH_take (i := 0) (v := ?v0) rfl (by kernel_rfl) (by kernel_rfl) (by kernel_rfl) (fun _ _ _ h => h) (Or.inl ⟨by rfl, ?y0⟩) (by first | assumption | exact Ext.eq hE (by exact ⟨rfl, rfl, rfl, rfl⟩)) ?r0
  case y0 => (intro w hSw; (try simp only [List.getElem_toArray, List.getElem_cons_succ, List.getElem_cons_zero]); (try dsimp only at hSw); go_simp; (try (with_reducible rfl)))
  try simp only [Act.put, List.getElem_toArray, List.getElem_cons_succ, List.getElem_cons_zero, List.setIfInBounds_toArray, List.set_cons_zero, List.set_cons_succ]
  -- 1
  refine' wpAnyH_take (i := 1) (v := ?v1) rfl (by kernel_rfl) (by kernel_rfl) (by kernel_rfl) (fun _ _ _ h => h) (Or.inl ⟨by rfl, ?y1⟩) (by first | assumption | exact Ext.eq hE (by exact ⟨rfl, rfl, rfl, rfl⟩)) ?r1
  case y1 => (intro w hSw; (try simp only [List.getElem_toArray, List.getElem_cons_succ, List.getElem_cons_zero]); (try dsimp only at hSw); go_simp; (try (with_reducible rfl)))
  try simp only [Act.put, List.getElem_toArray, List.getElem_cons_succ, List.getElem_cons_zero, List.setIfInBounds_toArray, List.set_cons_zero, List.set_cons_succ]
  -- effect 2
  refine wpAnyH_all (rs := [2]) (by kernel_rfl) (by simp) ?_
  intro i0 hi0
  obtain rfl : i0 = 2 := by simpa using hi0
  clear hi0
  refine wpOp_do rfl (by rfl) (fun K hK => ?_)
  simp only [List.getElem_toArray, List.getElem_cons_succ, List.getElem_cons_zero]
  go_simp
  refine (HS.out _ (by exact ⟨rfl, rfl, rfl, rfl⟩)).mono ?_
  rintro e9 w9 ⟨rfl, n9, rfl⟩
  refine hK _ _ ⟨Ext.eq hE (by exact ⟨rfl, rfl, rfl, rfl⟩), ?_⟩
  clear hK K
  try simp only [Act.put, List.getElem_toArray, List.getElem_cons_succ, List.getElem_cons_zero, List.setIfInBounds_toArray, List.set_cons_zero, List.set_cons_succ]
  -- 3
  refine' wpAnyH_take (i := 3) (v := ?v3) rfl (by kernel_rfl) (by kernel_rfl) (by kernel_rfl) (fun _ _ _ h => h) (Or.inl ⟨by rfl, ?y3⟩) (by first | assumption | exact Ext.eq hE (by exact ⟨rfl, rfl, rfl, rfl⟩)) ?r3
  case y3 => (intro w hSw; (try simp only [List.getElem_toArray, List.getElem_cons_succ, List.getElem_cons_zero]); (try dsimp only at hSw); go_simp; (try (with_reducible rfl)))
  try simp only [Act.put, List.getElem_toArray, List.getElem_cons_succ, List.getElem_cons_zero, List.setIfInBounds_toArray, List.set_cons_zero, List.set_cons_succ]
  -- 4
  refine' wpAnyH_take (i := 4) (v := ?v4) rfl (by kernel_rfl) (by kernel_rfl) (by kernel_rfl) (fun _ _ _ h => h) (Or.inl ⟨by rfl, ?y4⟩) (by first | assumption | exact Ext.eq hE (by exact ⟨rfl, rfl, rfl, rfl⟩)) ?r4
  case y4 => (intro w hSw; (try simp only [List.getElem_toArray, List.getElem_cons_succ, List.getElem_cons_zero]); (try dsimp only at hSw); go_simp; (try (with_reducible rfl)))
  try simp only [Act.put, List.getElem_toArray, List.getElem_cons_succ, List.getElem_cons_zero, List.setIfInBounds_toArray, List.set_cons_zero, List.set_cons_succ]
  -- 6
  refine' wpAnyH_take (i := 6) (v := ?v6) rfl (by kernel_rfl) (by kernel_rfl) (by kernel_rfl) (fun _ _ _ h => h) (Or.inl ⟨by rfl, ?y6⟩) (by first | assumption | exact Ext.eq hE (by exact ⟨rfl, rfl, rfl, rfl⟩)) ?r6
  case y6 => (intro w hSw; (try simp only [List.getElem_toArray, List.getElem_cons_succ, List.getElem_cons_zero]); (try dsimp only at hSw); go_simp; (try (with_reducible rfl)))
  try simp only [Act.put, List.getElem_toArray, List.getElem_cons_succ, List.getElem_cons_zero, List.setIfInBounds_toArray, List.set_cons_zero, List.set_cons_succ]
  -- 7
  refine' wpAnyH_take (i := 7) (v := ?v7) rfl (by kernel_rfl) (by kernel_rfl) (by kernel_rfl) (fun _ _ _ h => h) (Or.inl ⟨by rfl, ?y7⟩) (by first | assumption | exact Ext.eq hE (by exact ⟨rfl, rfl, rfl, rfl⟩)) ?r7
  case y7 => (intro w hSw; (try simp only [List.getElem_toArray, List.getElem_cons_succ, List.getElem_cons_zero]); (try dsimp only at hSw); go_simp; (try (with_reducible rfl)))
  try simp only [Act.put, List.getElem_toArray, List.getElem_cons_succ, List.getElem_cons_zero, List.setIfInBounds_toArray, List.set_cons_zero, List.set_cons_succ]
  -- effect 5
  refine wpAnyH_all (rs := [5]) (by kernel_rfl) (by simp) ?_
  intro i0 hi0
  obtain rfl : i0 = 5 := by simpa using hi0
  clear hi0
  refine wpOp_do rfl (by rfl) (fun K hK => ?_)
  simp only [List.getElem_toArray, List.getElem_cons_succ, List.getElem_cons_zero]
  go_simp
  refine (Hw.out _).mono ?_
  rintro e9 w9 ⟨rfl, b9⟩
  have hE' := Ext.tr hE b9 (by exact ⟨rfl, rfl, rfl, rfl⟩)
  refine hK _ _ ⟨hE', ?_⟩
  clear hK K hE b9
  have hE := hE'
  clear hE'
  try simp only [Act.put, List.getElem_toArray, List.getElem_cons_succ, List.getElem_cons_zero, List.setIfInBounds_toArray, List.set_cons_zero, List.set_cons_succ]
  -- 8
  refine' wpAnyH_take (i := 8) (v := ?v8) rfl (by kernel_rfl) (by kernel_rfl) (by kernel_rfl) (fun _ _ _ h => h) (Or.inl ⟨by rfl, ?y8⟩) (by first | assumption | exact Ext.eq hE (by exact ⟨rfl, rfl, rfl, rfl⟩)) ?r8
  case y8 => (intro w hSw; (try simp only [List.getElem_toArray, List.getElem_cons_succ, List.getElem_cons_zero]); (try dsimp only at hSw); go_simp; (try (with_reducible rfl)))
  try simp only [Act.put, List.getElem_toArray, List.getElem_cons_succ, List.getElem_cons_zero, List.setIfInBounds_toArray, List.set_cons_zero, List.set_cons_succ]
  -- 9
  refine' wpAnyH_take (i := 9) (v := ?v9) rfl (by kernel_rfl) (by kernel_rfl) (by kernel_rfl) (fun _ _ _ h => h) (Or.inl ⟨by rfl, ?y9⟩) (by first | assumption | exact Ext.eq hE (by exact ⟨rfl, rfl, rfl, rfl⟩)) ?r9
  case y9 => (intro w hSw; (try simp only [List.getElem_toArray, List.getElem_cons_succ, List.getElem_cons_zero]); (try dsimp only at hSw); go_simp; (try (with_reducible rfl)))
  try simp only [Act.put, List.getElem_toArray, List.getElem_cons_succ, List.getElem_cons_zero, List.setIfInBounds_toArray, List.set_cons_zero, List.set_cons_succ]
  -- 10
  refine' wpAnyH_take (i := 10) (v := ?v10) rfl (by kernel_rfl) (by kernel_rfl) (by kernel_rfl) (fun _ _ _ h => h) (Or.inl ⟨by rfl, ?y10⟩) (by first | assumption | exact Ext.eq hE (by exact ⟨rfl, rfl, rfl, rfl⟩)) ?r10
  case y10 => (intro w hSw; (try simp only [List.getElem_toArray, List.getElem_cons_succ, List.getElem_cons_zero]); (try dsimp only at hSw); go_simp; (try (with_reducible rfl)))
  try simp only [Act.put, List.getElem_toArray, List.getElem_cons_succ, List.getElem_cons_zero, List.setIfInBounds_toArray, List.set_cons_zero, List.set_cons_succ]
  -- 11
  refine' wpAnyH_take (i := 11) (v := ?v11) rfl (by kernel_rfl) (by kernel_rfl) (by kernel_rfl) (fun _ _ _ h => h) (Or.inl ⟨by rfl, ?y11⟩) (by first | assumption | exact Ext.eq hE (by exact ⟨rfl, rfl, rfl, rfl⟩)) ?r11
  case y11 => (intro w hSw; (try simp only [List.getElem_toArray, List.getElem_cons_succ, List.getElem_cons_zero]); (try dsimp only at hSw); go_simp; (try (with_reducible rfl)))
  try simp only [Act.put, List.getElem_toArray, List.getElem_cons_succ, List.getElem_cons_zero, List.setIfInBounds_toArray, List.set_cons_zero, List.set_cons_succ]
  -- 12
  refine' wpAnyH_take (i := 12) (v := ?v12) rfl (by kernel_rfl) (by kernel_rfl) (by kernel_rfl) (fun _ _ _ h => h) (Or.inl ⟨by rfl, ?y12⟩) (by first | assumption | exact Ext.eq hE (by exact ⟨rfl, rfl, rfl, rfl⟩)) ?r12
  case y12 => (intro w hSw; (try simp only [List.getElem_toArray, List.getElem_cons_succ, List.getElem_cons_zero]); (try dsimp only at hSw); go_simp; (try (with_reducible rfl)))
  try simp only [Act.put, List.getElem_toArray, List.getElem_cons_succ, List.getElem_cons_zero, List.setIfInBounds_toArray, List.set_cons_zero, List.set_cons_succ]
  -- 13
  refine' wpAnyH_take (i := 13) (v := ?v13) rfl (by kernel_rfl) (by kernel_rfl) (by kernel_rfl) (fun _ _ _ h => h) (Or.inl ⟨by rfl, ?y13⟩) (by first | assumption | exact Ext.eq hE (by exact ⟨rfl, rfl, rfl, rfl⟩)) ?r13
  case y13 => (intro w hSw; (try simp only [List.getElem_toArray, List.getElem_cons_succ, List.getElem_cons_zero]); (try dsimp only at hSw); go_simp; (try (with_reducible rfl)))
  try simp only [Act.put, List.getElem_toArray, List.getElem_cons_succ, List.getElem_cons_zero, List.setIfInBounds_toArray, List.set_cons_zero, List.set_cons_succ]
  -- 14
  refine' wpAnyH_take (i := 14) (v := ?v14) rfl (by kernel_rfl) (by kernel_rfl) (by kernel_rfl) (fun _ _ _ h => h) (Or.inl ⟨by rfl, ?y14⟩) (by first | assumption | exact Ext.eq hE (by exact ⟨rfl, rfl, rfl, rfl⟩)) ?r14
  case y14 => (intro w hSw; (try simp only [List.getElem_toArray, List.getElem_cons_succ, List.getElem_cons_zero]); (try dsimp only at hSw); go_simp; (try (with_reducible rfl)))
  try simp only [Act.put, List.getElem_toArray, List.getElem_cons_succ, List.getElem_cons_zero, List.setIfInBounds_toArray, List.set_cons_zero, List.set_cons_succ]
  -- 15
  refine' wpAnyH_take (i := 15) (v := ?v15) rfl (by kernel_rfl) (by kernel_rfl) (by kernel_rfl) (fun _ _ _ h => h) (Or.inl ⟨by rfl, ?y15⟩) (by first | assumption | exact Ext.eq hE (by exact ⟨rfl, rfl, rfl, rfl⟩)) ?r15
  case y15 => (intro w hSw; (try simp only [List.getElem_toArray, List.getElem_cons_succ, List.getElem_cons_zero]); (try dsimp only at hSw); go_simp; (try (with_reducible rfl)))
  try simp only [Act.put, List.getElem_toArray, List.getElem_cons_succ, List.getElem_cons_zero, List.setIfInBounds_toArray, List.set_cons_zero, List.set_cons_succ]
  -- 16
  refine' wpAnyH_take (i := 16) (v := ?v16) rfl (by kernel_rfl) (by kernel_rfl) (by kernel_rfl) (fun _ _ _ h => h) (Or.inl ⟨by rfl, ?y16⟩) (by first | assumption | exact Ext.eq hE (by exact ⟨rfl, rfl, rfl, rfl⟩)) ?r16
  case y16 => (intro w hSw; (try simp only [List.getElem_toArray, List.getElem_cons_succ, List.getElem_cons_zero]); (try dsimp only at hSw); go_simp; (try (with_reducible rfl)))
  try simp only [Act.put, List.getElem_toArray, List.getElem_cons_succ, List.getElem_cons_zero, List.setIfInBounds_toArray, List.set_cons_zero, List.set_cons_succ]
  -- 17
  refine' wpAnyH_take (i := 17) (v := ?v17) rfl (by kernel_rfl) (by kernel_rfl) (by kernel_rfl) (fun _ _ _ h => h) (Or.inl ⟨by rfl, ?y17⟩) (by first | assumption | exact Ext.eq hE (by exact ⟨rfl, rfl, rfl, rfl⟩)) ?r17
  case y17 => (intro w hSw; (try simp only [List.getElem_toArray, List.getElem_cons_succ, List.getElem_cons_zero]); (try dsimp only at hSw); go_simp; (try (with_reducible rfl)))
  try simp only [Act.put, List.getElem_toArray, List.getElem_cons_succ, List.getElem_cons_zero, List.setIfInBounds_toArray, List.set_cons_zero, List.set_cons_succ]
  -- 18
  refine' wpAnyH_take (i := 18) (v := ?v18) rfl (by kernel_rfl) (by kernel_rfl) (by kernel_rfl) (fun _ _ _ h => h) (Or.inl ⟨by rfl, ?y18⟩) (by first | assumption | exact Ext.eq hE (by exact ⟨rfl, rfl, rfl, rfl⟩)) ?r18
  case y18 => (intro w hSw; (try simp only [List.getElem_toArray, List.getElem_cons_succ, List.getElem_cons_zero]); (try dsimp only at hSw); go_simp; (try (with_reducible rfl)))
  try simp only [Act.put, List.getElem_toArray, List.getElem_cons_succ, List.getElem_cons_zero, List.setIfInBounds_toArray, List.set_cons_zero, List.set_cons_succ]
  -- 19
  refine' wpAnyH_take (i := 19) (v := ?v19) rfl (by kernel_rfl) (by kernel_rfl) (by kernel_rfl) (fun _ _ _ h => h) (Or.inl ⟨by rfl, ?y19⟩) (by first | assumption | exact Ext.eq hE (by exact ⟨rfl, rfl, rfl, rfl⟩)) ?r19
  case y19 => (intro w hSw; (try simp only [List.getElem_toArray, List.getElem_cons_succ, List.getElem_cons_zero]); (try dsimp only at hSw); go_simp; (try (with_reducible rfl)))
  try simp only [Act.put, List.getElem_toArray, List.getElem_cons_succ, List.getElem_cons_zero, List.setIfInBounds_toArray, List.set_cons_zero, List.set_cons_succ]
  refine wpAnyH_done (by kernel_rfl) ?_ _
  refine NoPanic.normal ?_
  go_wp2
  go_ret
  exact ⟨rfl, below_tr B1 (by first | exact hE | exact Ext.eq hE ⟨rfl, rfl, rfl, rfl⟩)⟩

set_option maxHeartbeats 4000000 in
theorem isaReads_700 (op imm : Int) (w : World) (hr : rightB ⟨op, 0, 0, 0, imm⟩ = true) (hf : form op = 7) (hl : readsL ⟨op, 0, 0, 0, imm⟩ = []) :
    Calls Try.prog 9 #[.agg #[.int .i64 op, .int .i64 0, .int .i64 0, .int .i64 0, .int .i64 imm]] w fun e w' => e = .returned (.bool true) ∧ Below w.heap.size w w' := by
  have Hs := hid (fun w => reads_any ⟨op, 0, 0, 0, imm⟩ w)
  have Hr := hid (fun w => refRight_any ⟨op, 0, 0, 0, imm⟩ w)
  have Hw := hid (fun w => writes_any ⟨op, 0, 0, 0, imm⟩ w)
  have Hf := hid (fun w => form_any op w)
  rw [hl] at Hs
  rw [writes_d ⟨op, 0, 0, 0, imm⟩ hr] at Hw
  rw [hr] at Hr
  rw [hf] at Hf
  simp only [Ins.val] at Hs Hr Hw
  clear hr hf hl
  go_enter Try.func9, Try.ntmps9
  go_wp2_with fail
  refine (alive2_any _).mono ?_
  rintro e9 w1 ⟨rfl, b1⟩
  have x1 := (BoxI.new w op 0 0 0 imm 23).below b1
  have B1 := below_tr (below_al (Below.refl _ _) _) b1
  obtain ⟨kx0, kx1, kx2, kx3, kx4⟩ := x1.ext
  have hE : Ext w1 w1 := Ext.refl w1
  have hA : ∀ o, Ext w1 (w1.alloc o) := fun o => below_al hE o
  clear b1 x1
  go_wp2_with fail
  refine (Hs.out _).mono ?_
  rintro e9 w9 ⟨v9, rfl, o9, b9⟩
  obtain ⟨A9, c9, e9, r9, q9⟩ := own_rd o9
  subst e9
  have hE' := Ext.tr hE b9 (by exact ⟨rfl, rfl, rfl, rfl⟩)
  clear hE b9 hA o9
  have hE := hE'
  clear hE'
  go_wp2_with fail
  refine (Hr.out _).mono ?_
  rintro e9 w2 ⟨rfl, b9⟩
  replace r9 := r9.below b9
  have hE' := Ext.tr hE b9 (by exact ⟨rfl, rfl, rfl, rfl⟩)
  clear hE b9
  have hE := hE'
  clear hE'
  go_wp2_with fail
  refine (Hf.out _).mono ?_
  rintro e9 w9 ⟨rfl, rfl⟩
  have hA : ∀ o, Ext w1 (w2.alloc o) := fun o => below_al hE o
  clear hA
  go_wp2_with fail
  have hS : ∀ W, Eqw W w2 → Calls Try.prog 19 #[.slice A9 0 c9, .slice none 0 0] W fun e w' => e = .returned (.bool true) ∧ Drw W w' := fun W hW => same_eq [] 0 rfl A9 none c9 0 W (by omega) (r9.eqw hW) (Rd.nil _ _)
  have HS := hid hS
  clear hS r9
  refine wp_region_held_np (S := fun W => Ext w1 W) 20 rfl (by kernel_rfl) ?_
  -- 0
  refine' wpAnyH_take (i := 0) (v := ?v0) rfl (by kernel_rfl) (by kernel_rfl) (by kernel_rfl) (fun _ _ _ h => h) (Or.inl ⟨by rfl, ?y0⟩) (by first | assumption | exact Ext.eq hE (by exact ⟨rfl, rfl, rfl, rfl⟩)) ?r0
  case y0 => (intro w hSw; (try simp only [List.getElem_toArray, List.getElem_cons_succ, List.getElem_cons_zero]); (try dsimp only at hSw); go_simp; (try (with_reducible rfl)))
  try simp only [Act.put, List.getElem_toArray, List.getElem_cons_succ, List.getElem_cons_zero, List.setIfInBounds_toArray, List.set_cons_zero, List.set_cons_succ]
  -- 1
  refine' wpAnyH_take (i := 1) (v := ?v1) rfl (by kernel_rfl) (by kernel_rfl) (by kernel_rfl) (fun _ _ _ h => h) (Or.inl ⟨by rfl, ?y1⟩) (by first | assumption | exact Ext.eq hE (by exact ⟨rfl, rfl, rfl, rfl⟩)) ?r1
  case y1 => (intro w hSw; (try simp only [List.getElem_toArray, List.getElem_cons_succ, List.getElem_cons_zero]); (try dsimp only at hSw); go_simp; (try (with_reducible rfl)))
  try simp only [Act.put, List.getElem_toArray, List.getElem_cons_succ, List.getElem_cons_zero, List.setIfInBounds_toArray, List.set_cons_zero, List.set_cons_succ]
  -- effect 2
  refine wpAnyH_all (rs := [2]) (by kernel_rfl) (by simp) ?_
  intro i0 hi0
  obtain rfl : i0 = 2 := by simpa using hi0
  clear hi0
  refine wpOp_do rfl (by rfl) (fun K hK => ?_)
  simp only [List.getElem_toArray, List.getElem_cons_succ, List.getElem_cons_zero]
  go_simp
  refine (HS.out _ (by exact ⟨rfl, rfl, rfl, rfl⟩)).mono ?_
  rintro e9 w9 ⟨rfl, n9, rfl⟩
  refine hK _ _ ⟨Ext.eq hE (by exact ⟨rfl, rfl, rfl, rfl⟩), ?_⟩
  clear hK K
  try simp only [Act.put, List.getElem_toArray, List.getElem_cons_succ, List.getElem_cons_zero, List.setIfInBounds_toArray, List.set_cons_zero, List.set_cons_succ]
  -- 3
  refine' wpAnyH_take (i := 3) (v := ?v3) rfl (by kernel_rfl) (by kernel_rfl) (by kernel_rfl) (fun _ _ _ h => h) (Or.inl ⟨by rfl, ?y3⟩) (by first | assumption | exact Ext.eq hE (by exact ⟨rfl, rfl, rfl, rfl⟩)) ?r3
  case y3 => (intro w hSw; (try simp only [List.getElem_toArray, List.getElem_cons_succ, List.getElem_cons_zero]); (try dsimp only at hSw); go_simp; (try (with_reducible rfl)))
  try simp only [Act.put, List.getElem_toArray, List.getElem_cons_succ, List.getElem_cons_zero, List.setIfInBounds_toArray, List.set_cons_zero, List.set_cons_succ]
  -- 4
  refine' wpAnyH_take (i := 4) (v := ?v4) rfl (by kernel_rfl) (by kernel_rfl) (by kernel_rfl) (fun _ _ _ h => h) (Or.inl ⟨by rfl, ?y4⟩) (by first | assumption | exact Ext.eq hE (by exact ⟨rfl, rfl, rfl, rfl⟩)) ?r4
  case y4 => (intro w hSw; (try simp only [List.getElem_toArray, List.getElem_cons_succ, List.getElem_cons_zero]); (try dsimp only at hSw); go_simp; (try (with_reducible rfl)))
  try simp only [Act.put, List.getElem_toArray, List.getElem_cons_succ, List.getElem_cons_zero, List.setIfInBounds_toArray, List.set_cons_zero, List.set_cons_succ]
  -- 6
  refine' wpAnyH_take (i := 6) (v := ?v6) rfl (by kernel_rfl) (by kernel_rfl) (by kernel_rfl) (fun _ _ _ h => h) (Or.inl ⟨by rfl, ?y6⟩) (by first | assumption | exact Ext.eq hE (by exact ⟨rfl, rfl, rfl, rfl⟩)) ?r6
  case y6 => (intro w hSw; (try simp only [List.getElem_toArray, List.getElem_cons_succ, List.getElem_cons_zero]); (try dsimp only at hSw); go_simp; (try (with_reducible rfl)))
  try simp only [Act.put, List.getElem_toArray, List.getElem_cons_succ, List.getElem_cons_zero, List.setIfInBounds_toArray, List.set_cons_zero, List.set_cons_succ]
  -- 7
  refine' wpAnyH_take (i := 7) (v := ?v7) rfl (by kernel_rfl) (by kernel_rfl) (by kernel_rfl) (fun _ _ _ h => h) (Or.inl ⟨by rfl, ?y7⟩) (by first | assumption | exact Ext.eq hE (by exact ⟨rfl, rfl, rfl, rfl⟩)) ?r7
  case y7 => (intro w hSw; (try simp only [List.getElem_toArray, List.getElem_cons_succ, List.getElem_cons_zero]); (try dsimp only at hSw); go_simp; (try (with_reducible rfl)))
  try simp only [Act.put, List.getElem_toArray, List.getElem_cons_succ, List.getElem_cons_zero, List.setIfInBounds_toArray, List.set_cons_zero, List.set_cons_succ]
  -- effect 5
  refine wpAnyH_all (rs := [5]) (by kernel_rfl) (by simp) ?_
  intro i0 hi0
  obtain rfl : i0 = 5 := by simpa using hi0
  clear hi0
  refine wpOp_do rfl (by rfl) (fun K hK => ?_)
  simp only [List.getElem_toArray, List.getElem_cons_succ, List.getElem_cons_zero]
  go_simp
  refine (Hw.out _).mono ?_
  rintro e9 w9 ⟨rfl, b9⟩
  have hE' := Ext.tr hE b9 (by exact ⟨rfl, rfl, rfl, rfl⟩)
  refine hK _ _ ⟨hE', ?_⟩
  clear hK K hE b9
  have hE := hE'
  clear hE'
  try simp only [Act.put, List.getElem_toArray, List.getElem_cons_succ, List.getElem_cons_zero, List.setIfInBounds_toArray, List.set_cons_zero, List.set_cons_succ]
  -- 8
  refine' wpAnyH_take (i := 8) (v := ?v8) rfl (by kernel_rfl) (by kernel_rfl) (by kernel_rfl) (fun _ _ _ h => h) (Or.inl ⟨by rfl, ?y8⟩) (by first | assumption | exact Ext.eq hE (by exact ⟨rfl, rfl, rfl, rfl⟩)) ?r8
  case y8 => (intro w hSw; (try simp only [List.getElem_toArray, List.getElem_cons_succ, List.getElem_cons_zero]); (try dsimp only at hSw); go_simp; (try (with_reducible rfl)))
  try simp only [Act.put, List.getElem_toArray, List.getElem_cons_succ, List.getElem_cons_zero, List.setIfInBounds_toArray, List.set_cons_zero, List.set_cons_succ]
  -- 9
  refine' wpAnyH_take (i := 9) (v := ?v9) rfl (by kernel_rfl) (by kernel_rfl) (by kernel_rfl) (fun _ _ _ h => h) (Or.inl ⟨by rfl, ?y9⟩) (by first | assumption | exact Ext.eq hE (by exact ⟨rfl, rfl, rfl, rfl⟩)) ?r9
  case y9 => (intro w hSw; (try simp only [List.getElem_toArray, List.getElem_cons_succ, List.getElem_cons_zero]); (try dsimp only at hSw); go_simp; (try (with_reducible rfl)))
  try simp only [Act.put, List.getElem_toArray, List.getElem_cons_succ, List.getElem_cons_zero, List.setIfInBounds_toArray, List.set_cons_zero, List.set_cons_succ]
  -- 10
  refine' wpAnyH_take (i := 10) (v := ?v10) rfl (by kernel_rfl) (by kernel_rfl) (by kernel_rfl) (fun _ _ _ h => h) (Or.inl ⟨by rfl, ?y10⟩) (by first | assumption | exact Ext.eq hE (by exact ⟨rfl, rfl, rfl, rfl⟩)) ?r10
  case y10 => (intro w hSw; (try simp only [List.getElem_toArray, List.getElem_cons_succ, List.getElem_cons_zero]); (try dsimp only at hSw); go_simp; (try (with_reducible rfl)))
  try simp only [Act.put, List.getElem_toArray, List.getElem_cons_succ, List.getElem_cons_zero, List.setIfInBounds_toArray, List.set_cons_zero, List.set_cons_succ]
  -- 11
  refine' wpAnyH_take (i := 11) (v := ?v11) rfl (by kernel_rfl) (by kernel_rfl) (by kernel_rfl) (fun _ _ _ h => h) (Or.inl ⟨by rfl, ?y11⟩) (by first | assumption | exact Ext.eq hE (by exact ⟨rfl, rfl, rfl, rfl⟩)) ?r11
  case y11 => (intro w hSw; (try simp only [List.getElem_toArray, List.getElem_cons_succ, List.getElem_cons_zero]); (try dsimp only at hSw); go_simp; (try (with_reducible rfl)))
  try simp only [Act.put, List.getElem_toArray, List.getElem_cons_succ, List.getElem_cons_zero, List.setIfInBounds_toArray, List.set_cons_zero, List.set_cons_succ]
  -- 12
  refine' wpAnyH_take (i := 12) (v := ?v12) rfl (by kernel_rfl) (by kernel_rfl) (by kernel_rfl) (fun _ _ _ h => h) (Or.inl ⟨by rfl, ?y12⟩) (by first | assumption | exact Ext.eq hE (by exact ⟨rfl, rfl, rfl, rfl⟩)) ?r12
  case y12 => (intro w hSw; (try simp only [List.getElem_toArray, List.getElem_cons_succ, List.getElem_cons_zero]); (try dsimp only at hSw); go_simp; (try (with_reducible rfl)))
  try simp only [Act.put, List.getElem_toArray, List.getElem_cons_succ, List.getElem_cons_zero, List.setIfInBounds_toArray, List.set_cons_zero, List.set_cons_succ]
  -- 13
  refine' wpAnyH_take (i := 13) (v := ?v13) rfl (by kernel_rfl) (by kernel_rfl) (by kernel_rfl) (fun _ _ _ h => h) (Or.inl ⟨by rfl, ?y13⟩) (by first | assumption | exact Ext.eq hE (by exact ⟨rfl, rfl, rfl, rfl⟩)) ?r13
  case y13 => (intro w hSw; (try simp only [List.getElem_toArray, List.getElem_cons_succ, List.getElem_cons_zero]); (try dsimp only at hSw); go_simp; (try (with_reducible rfl)))
  try simp only [Act.put, List.getElem_toArray, List.getElem_cons_succ, List.getElem_cons_zero, List.setIfInBounds_toArray, List.set_cons_zero, List.set_cons_succ]
  -- 14
  refine' wpAnyH_take (i := 14) (v := ?v14) rfl (by kernel_rfl) (by kernel_rfl) (by kernel_rfl) (fun _ _ _ h => h) (Or.inl ⟨by rfl, ?y14⟩) (by first | assumption | exact Ext.eq hE (by exact ⟨rfl, rfl, rfl, rfl⟩)) ?r14
  case y14 => (intro w hSw; (try simp only [List.getElem_toArray, List.getElem_cons_succ, List.getElem_cons_zero]); (try dsimp only at hSw); go_simp; (try (with_reducible rfl)))
  try simp only [Act.put, List.getElem_toArray, List.getElem_cons_succ, List.getElem_cons_zero, List.setIfInBounds_toArray, List.set_cons_zero, List.set_cons_succ]
  -- 15
  refine' wpAnyH_take (i := 15) (v := ?v15) rfl (by kernel_rfl) (by kernel_rfl) (by kernel_rfl) (fun _ _ _ h => h) (Or.inl ⟨by rfl, ?y15⟩) (by first | assumption | exact Ext.eq hE (by exact ⟨rfl, rfl, rfl, rfl⟩)) ?r15
  case y15 => (intro w hSw; (try simp only [List.getElem_toArray, List.getElem_cons_succ, List.getElem_cons_zero]); (try dsimp only at hSw); go_simp; (try (with_reducible rfl)))
  try simp only [Act.put, List.getElem_toArray, List.getElem_cons_succ, List.getElem_cons_zero, List.setIfInBounds_toArray, List.set_cons_zero, List.set_cons_succ]
  -- 16
  refine' wpAnyH_take (i := 16) (v := ?v16) rfl (by kernel_rfl) (by kernel_rfl) (by kernel_rfl) (fun _ _ _ h => h) (Or.inl ⟨by rfl, ?y16⟩) (by first | assumption | exact Ext.eq hE (by exact ⟨rfl, rfl, rfl, rfl⟩)) ?r16
  case y16 => (intro w hSw; (try simp only [List.getElem_toArray, List.getElem_cons_succ, List.getElem_cons_zero]); (try dsimp only at hSw); go_simp; (try (with_reducible rfl)))
  try simp only [Act.put, List.getElem_toArray, List.getElem_cons_succ, List.getElem_cons_zero, List.setIfInBounds_toArray, List.set_cons_zero, List.set_cons_succ]
  -- 17
  refine' wpAnyH_take (i := 17) (v := ?v17) rfl (by kernel_rfl) (by kernel_rfl) (by kernel_rfl) (fun _ _ _ h => h) (Or.inl ⟨by rfl, ?y17⟩) (by first | assumption | exact Ext.eq hE (by exact ⟨rfl, rfl, rfl, rfl⟩)) ?r17
  case y17 => (intro w hSw; (try simp only [List.getElem_toArray, List.getElem_cons_succ, List.getElem_cons_zero]); (try dsimp only at hSw); go_simp; (try (with_reducible rfl)))
  try simp only [Act.put, List.getElem_toArray, List.getElem_cons_succ, List.getElem_cons_zero, List.setIfInBounds_toArray, List.set_cons_zero, List.set_cons_succ]
  -- 18
  refine' wpAnyH_take (i := 18) (v := ?v18) rfl (by kernel_rfl) (by kernel_rfl) (by kernel_rfl) (fun _ _ _ h => h) (Or.inl ⟨by rfl, ?y18⟩) (by first | assumption | exact Ext.eq hE (by exact ⟨rfl, rfl, rfl, rfl⟩)) ?r18
  case y18 => (intro w hSw; (try simp only [List.getElem_toArray, List.getElem_cons_succ, List.getElem_cons_zero]); (try dsimp only at hSw); go_simp; (try (with_reducible rfl)))
  try simp only [Act.put, List.getElem_toArray, List.getElem_cons_succ, List.getElem_cons_zero, List.setIfInBounds_toArray, List.set_cons_zero, List.set_cons_succ]
  -- 19
  refine' wpAnyH_take (i := 19) (v := ?v19) rfl (by kernel_rfl) (by kernel_rfl) (by kernel_rfl) (fun _ _ _ h => h) (Or.inl ⟨by rfl, ?y19⟩) (by first | assumption | exact Ext.eq hE (by exact ⟨rfl, rfl, rfl, rfl⟩)) ?r19
  case y19 => (intro w hSw; (try simp only [List.getElem_toArray, List.getElem_cons_succ, List.getElem_cons_zero]); (try dsimp only at hSw); go_simp; (try (with_reducible rfl)))
  try simp only [Act.put, List.getElem_toArray, List.getElem_cons_succ, List.getElem_cons_zero, List.setIfInBounds_toArray, List.set_cons_zero, List.set_cons_succ]
  refine wpAnyH_done (by kernel_rfl) ?_ _
  refine NoPanic.normal ?_
  go_wp2
  go_ret
  exact ⟨rfl, below_tr B1 (by first | exact hE | exact Ext.eq hE ⟨rfl, rfl, rfl, rfl⟩)⟩

set_option maxHeartbeats 4000000 in
theorem isaReads_800 (op imm : Int) (w : World) (hr : rightB ⟨op, 0, 0, 0, imm⟩ = true) (hf : form op = 8) (hl : readsL ⟨op, 0, 0, 0, imm⟩ = []) :
    Calls Try.prog 9 #[.agg #[.int .i64 op, .int .i64 0, .int .i64 0, .int .i64 0, .int .i64 imm]] w fun e w' => e = .returned (.bool true) ∧ Below w.heap.size w w' := by
  have Hs := hid (fun w => reads_any ⟨op, 0, 0, 0, imm⟩ w)
  have Hr := hid (fun w => refRight_any ⟨op, 0, 0, 0, imm⟩ w)
  have Hw := hid (fun w => writes_any ⟨op, 0, 0, 0, imm⟩ w)
  have Hf := hid (fun w => form_any op w)
  rw [hl] at Hs
  rw [writes_d ⟨op, 0, 0, 0, imm⟩ hr] at Hw
  rw [hr] at Hr
  rw [hf] at Hf
  simp only [Ins.val] at Hs Hr Hw
  clear hr hf hl
  go_enter Try.func9, Try.ntmps9
  go_wp2_with fail
  refine (alive2_any _).mono ?_
  rintro e9 w1 ⟨rfl, b1⟩
  have x1 := (BoxI.new w op 0 0 0 imm 23).below b1
  have B1 := below_tr (below_al (Below.refl _ _) _) b1
  obtain ⟨kx0, kx1, kx2, kx3, kx4⟩ := x1.ext
  have hE : Ext w1 w1 := Ext.refl w1
  have hA : ∀ o, Ext w1 (w1.alloc o) := fun o => below_al hE o
  clear b1 x1
  go_wp2_with fail
  refine (Hs.out _).mono ?_
  rintro e9 w9 ⟨v9, rfl, o9, b9⟩
  obtain ⟨A9, c9, e9, r9, q9⟩ := own_rd o9
  subst e9
  have hE' := Ext.tr hE b9 (by exact ⟨rfl, rfl, rfl, rfl⟩)
  clear hE b9 hA o9
  have hE := hE'
  clear hE'
  go_wp2_with fail
  refine (Hr.out _).mono ?_
  rintro e9 w2 ⟨rfl, b9⟩
  replace r9 := r9.below b9
  have hE' := Ext.tr hE b9 (by exact ⟨rfl, rfl, rfl, rfl⟩)
  clear hE b9
  have hE := hE'
  clear hE'
  go_wp2_with fail
  refine (Hf.out _).mono ?_
  rintro e9 w9 ⟨rfl, rfl⟩
  have hA : ∀ o, Ext w1 (w2.alloc o) := fun o => below_al hE o
  clear hA
  go_wp2_with fail
  have hS : ∀ W, Eqw W w2 → Calls Try.prog 19 #[.slice A9 0 c9, .slice none 0 0] W fun e w' => e = .returned (.bool true) ∧ Drw W w' := fun W hW => same_eq [] 0 rfl A9 none c9 0 W (by omega) (r9.eqw hW) (Rd.nil _ _)
  have HS := hid hS
  clear hS r9
  refine wp_region_held_np (S := fun W => Ext w1 W) 20 rfl (by kernel_rfl) ?_
  -- 0
  refine' wpAnyH_take (i := 0) (v := ?v0) rfl (by kernel_rfl) (by kernel_rfl) (by kernel_rfl) (fun _ _ _ h => h) (Or.inl ⟨by rfl, ?y0⟩) (by first | assumption | exact Ext.eq hE (by exact ⟨rfl, rfl, rfl, rfl⟩)) ?r0
  case y0 => (intro w hSw; (try simp only [List.getElem_toArray, List.getElem_cons_succ, List.getElem_cons_zero]); (try dsimp only at hSw); go_simp; (try (with_reducible rfl)))
  try simp only [Act.put, List.getElem_toArray, List.getElem_cons_succ, List.getElem_cons_zero, List.setIfInBounds_toArray, List.set_cons_zero, List.set_cons_succ]
  -- 1
  refine' wpAnyH_take (i := 1) (v := ?v1) rfl (by kernel_rfl) (by kernel_rfl) (by kernel_rfl) (fun _ _ _ h => h) (Or.inl ⟨by rfl, ?y1⟩) (by first | assumption | exact Ext.eq hE (by exact ⟨rfl, rfl, rfl, rfl⟩)) ?r1
  case y1 => (intro w hSw; (try simp only [List.getElem_toArray, List.getElem_cons_succ, List.getElem_cons_zero]); (try dsimp only at hSw); go_simp; (try (with_reducible rfl)))
  try simp only [Act.put, List.getElem_toArray, List.getElem_cons_succ, List.getElem_cons_zero, List.setIfInBounds_toArray, List.set_cons_zero, List.set_cons_succ]
  -- effect 2
  refine wpAnyH_all (rs := [2]) (by kernel_rfl) (by simp) ?_
  intro i0 hi0
  obtain rfl : i0 = 2 := by simpa using hi0
  clear hi0
  refine wpOp_do rfl (by rfl) (fun K hK => ?_)
  simp only [List.getElem_toArray, List.getElem_cons_succ, List.getElem_cons_zero]
  go_simp
  refine (HS.out _ (by exact ⟨rfl, rfl, rfl, rfl⟩)).mono ?_
  rintro e9 w9 ⟨rfl, n9, rfl⟩
  refine hK _ _ ⟨Ext.eq hE (by exact ⟨rfl, rfl, rfl, rfl⟩), ?_⟩
  clear hK K
  try simp only [Act.put, List.getElem_toArray, List.getElem_cons_succ, List.getElem_cons_zero, List.setIfInBounds_toArray, List.set_cons_zero, List.set_cons_succ]
  -- 3
  refine' wpAnyH_take (i := 3) (v := ?v3) rfl (by kernel_rfl) (by kernel_rfl) (by kernel_rfl) (fun _ _ _ h => h) (Or.inl ⟨by rfl, ?y3⟩) (by first | assumption | exact Ext.eq hE (by exact ⟨rfl, rfl, rfl, rfl⟩)) ?r3
  case y3 => (intro w hSw; (try simp only [List.getElem_toArray, List.getElem_cons_succ, List.getElem_cons_zero]); (try dsimp only at hSw); go_simp; (try (with_reducible rfl)))
  try simp only [Act.put, List.getElem_toArray, List.getElem_cons_succ, List.getElem_cons_zero, List.setIfInBounds_toArray, List.set_cons_zero, List.set_cons_succ]
  -- 4
  refine' wpAnyH_take (i := 4) (v := ?v4) rfl (by kernel_rfl) (by kernel_rfl) (by kernel_rfl) (fun _ _ _ h => h) (Or.inl ⟨by rfl, ?y4⟩) (by first | assumption | exact Ext.eq hE (by exact ⟨rfl, rfl, rfl, rfl⟩)) ?r4
  case y4 => (intro w hSw; (try simp only [List.getElem_toArray, List.getElem_cons_succ, List.getElem_cons_zero]); (try dsimp only at hSw); go_simp; (try (with_reducible rfl)))
  try simp only [Act.put, List.getElem_toArray, List.getElem_cons_succ, List.getElem_cons_zero, List.setIfInBounds_toArray, List.set_cons_zero, List.set_cons_succ]
  -- 6
  refine' wpAnyH_take (i := 6) (v := ?v6) rfl (by kernel_rfl) (by kernel_rfl) (by kernel_rfl) (fun _ _ _ h => h) (Or.inl ⟨by rfl, ?y6⟩) (by first | assumption | exact Ext.eq hE (by exact ⟨rfl, rfl, rfl, rfl⟩)) ?r6
  case y6 => (intro w hSw; (try simp only [List.getElem_toArray, List.getElem_cons_succ, List.getElem_cons_zero]); (try dsimp only at hSw); go_simp; (try (with_reducible rfl)))
  try simp only [Act.put, List.getElem_toArray, List.getElem_cons_succ, List.getElem_cons_zero, List.setIfInBounds_toArray, List.set_cons_zero, List.set_cons_succ]
  -- 7
  refine' wpAnyH_take (i := 7) (v := ?v7) rfl (by kernel_rfl) (by kernel_rfl) (by kernel_rfl) (fun _ _ _ h => h) (Or.inl ⟨by rfl, ?y7⟩) (by first | assumption | exact Ext.eq hE (by exact ⟨rfl, rfl, rfl, rfl⟩)) ?r7
  case y7 => (intro w hSw; (try simp only [List.getElem_toArray, List.getElem_cons_succ, List.getElem_cons_zero]); (try dsimp only at hSw); go_simp; (try (with_reducible rfl)))
  try simp only [Act.put, List.getElem_toArray, List.getElem_cons_succ, List.getElem_cons_zero, List.setIfInBounds_toArray, List.set_cons_zero, List.set_cons_succ]
  -- effect 5
  refine wpAnyH_all (rs := [5]) (by kernel_rfl) (by simp) ?_
  intro i0 hi0
  obtain rfl : i0 = 5 := by simpa using hi0
  clear hi0
  refine wpOp_do rfl (by rfl) (fun K hK => ?_)
  simp only [List.getElem_toArray, List.getElem_cons_succ, List.getElem_cons_zero]
  go_simp
  refine (Hw.out _).mono ?_
  rintro e9 w9 ⟨rfl, b9⟩
  have hE' := Ext.tr hE b9 (by exact ⟨rfl, rfl, rfl, rfl⟩)
  refine hK _ _ ⟨hE', ?_⟩
  clear hK K hE b9
  have hE := hE'
  clear hE'
  try simp only [Act.put, List.getElem_toArray, List.getElem_cons_succ, List.getElem_cons_zero, List.setIfInBounds_toArray, List.set_cons_zero, List.set_cons_succ]
  -- 8
  refine' wpAnyH_take (i := 8) (v := ?v8) rfl (by kernel_rfl) (by kernel_rfl) (by kernel_rfl) (fun _ _ _ h => h) (Or.inl ⟨by rfl, ?y8⟩) (by first | assumption | exact Ext.eq hE (by exact ⟨rfl, rfl, rfl, rfl⟩)) ?r8
  case y8 => (intro w hSw; (try simp only [List.getElem_toArray, List.getElem_cons_succ, List.getElem_cons_zero]); (try dsimp only at hSw); go_simp; (try (with_reducible rfl)))
  try simp only [Act.put, List.getElem_toArray, List.getElem_cons_succ, List.getElem_cons_zero, List.setIfInBounds_toArray, List.set_cons_zero, List.set_cons_succ]
  -- 9
  refine' wpAnyH_take (i := 9) (v := ?v9) rfl (by kernel_rfl) (by kernel_rfl) (by kernel_rfl) (fun _ _ _ h => h) (Or.inl ⟨by rfl, ?y9⟩) (by first | assumption | exact Ext.eq hE (by exact ⟨rfl, rfl, rfl, rfl⟩)) ?r9
  case y9 => (intro w hSw; (try simp only [List.getElem_toArray, List.getElem_cons_succ, List.getElem_cons_zero]); (try dsimp only at hSw); go_simp; (try (with_reducible rfl)))
  try simp only [Act.put, List.getElem_toArray, List.getElem_cons_succ, List.getElem_cons_zero, List.setIfInBounds_toArray, List.set_cons_zero, List.set_cons_succ]
  -- 10
  refine' wpAnyH_take (i := 10) (v := ?v10) rfl (by kernel_rfl) (by kernel_rfl) (by kernel_rfl) (fun _ _ _ h => h) (Or.inl ⟨by rfl, ?y10⟩) (by first | assumption | exact Ext.eq hE (by exact ⟨rfl, rfl, rfl, rfl⟩)) ?r10
  case y10 => (intro w hSw; (try simp only [List.getElem_toArray, List.getElem_cons_succ, List.getElem_cons_zero]); (try dsimp only at hSw); go_simp; (try (with_reducible rfl)))
  try simp only [Act.put, List.getElem_toArray, List.getElem_cons_succ, List.getElem_cons_zero, List.setIfInBounds_toArray, List.set_cons_zero, List.set_cons_succ]
  -- 11
  refine' wpAnyH_take (i := 11) (v := ?v11) rfl (by kernel_rfl) (by kernel_rfl) (by kernel_rfl) (fun _ _ _ h => h) (Or.inl ⟨by rfl, ?y11⟩) (by first | assumption | exact Ext.eq hE (by exact ⟨rfl, rfl, rfl, rfl⟩)) ?r11
  case y11 => (intro w hSw; (try simp only [List.getElem_toArray, List.getElem_cons_succ, List.getElem_cons_zero]); (try dsimp only at hSw); go_simp; (try (with_reducible rfl)))
  try simp only [Act.put, List.getElem_toArray, List.getElem_cons_succ, List.getElem_cons_zero, List.setIfInBounds_toArray, List.set_cons_zero, List.set_cons_succ]
  -- 12
  refine' wpAnyH_take (i := 12) (v := ?v12) rfl (by kernel_rfl) (by kernel_rfl) (by kernel_rfl) (fun _ _ _ h => h) (Or.inl ⟨by rfl, ?y12⟩) (by first | assumption | exact Ext.eq hE (by exact ⟨rfl, rfl, rfl, rfl⟩)) ?r12
  case y12 => (intro w hSw; (try simp only [List.getElem_toArray, List.getElem_cons_succ, List.getElem_cons_zero]); (try dsimp only at hSw); go_simp; (try (with_reducible rfl)))
  try simp only [Act.put, List.getElem_toArray, List.getElem_cons_succ, List.getElem_cons_zero, List.setIfInBounds_toArray, List.set_cons_zero, List.set_cons_succ]
  -- 13
  refine' wpAnyH_take (i := 13) (v := ?v13) rfl (by kernel_rfl) (by kernel_rfl) (by kernel_rfl) (fun _ _ _ h => h) (Or.inl ⟨by rfl, ?y13⟩) (by first | assumption | exact Ext.eq hE (by exact ⟨rfl, rfl, rfl, rfl⟩)) ?r13
  case y13 => (intro w hSw; (try simp only [List.getElem_toArray, List.getElem_cons_succ, List.getElem_cons_zero]); (try dsimp only at hSw); go_simp; (try (with_reducible rfl)))
  try simp only [Act.put, List.getElem_toArray, List.getElem_cons_succ, List.getElem_cons_zero, List.setIfInBounds_toArray, List.set_cons_zero, List.set_cons_succ]
  -- 14
  refine' wpAnyH_take (i := 14) (v := ?v14) rfl (by kernel_rfl) (by kernel_rfl) (by kernel_rfl) (fun _ _ _ h => h) (Or.inl ⟨by rfl, ?y14⟩) (by first | assumption | exact Ext.eq hE (by exact ⟨rfl, rfl, rfl, rfl⟩)) ?r14
  case y14 => (intro w hSw; (try simp only [List.getElem_toArray, List.getElem_cons_succ, List.getElem_cons_zero]); (try dsimp only at hSw); go_simp; (try (with_reducible rfl)))
  try simp only [Act.put, List.getElem_toArray, List.getElem_cons_succ, List.getElem_cons_zero, List.setIfInBounds_toArray, List.set_cons_zero, List.set_cons_succ]
  -- 15
  refine' wpAnyH_take (i := 15) (v := ?v15) rfl (by kernel_rfl) (by kernel_rfl) (by kernel_rfl) (fun _ _ _ h => h) (Or.inl ⟨by rfl, ?y15⟩) (by first | assumption | exact Ext.eq hE (by exact ⟨rfl, rfl, rfl, rfl⟩)) ?r15
  case y15 => (intro w hSw; (try simp only [List.getElem_toArray, List.getElem_cons_succ, List.getElem_cons_zero]); (try dsimp only at hSw); go_simp; (try (with_reducible rfl)))
  try simp only [Act.put, List.getElem_toArray, List.getElem_cons_succ, List.getElem_cons_zero, List.setIfInBounds_toArray, List.set_cons_zero, List.set_cons_succ]
  -- 16
  refine' wpAnyH_take (i := 16) (v := ?v16) rfl (by kernel_rfl) (by kernel_rfl) (by kernel_rfl) (fun _ _ _ h => h) (Or.inl ⟨by rfl, ?y16⟩) (by first | assumption | exact Ext.eq hE (by exact ⟨rfl, rfl, rfl, rfl⟩)) ?r16
  case y16 => (intro w hSw; (try simp only [List.getElem_toArray, List.getElem_cons_succ, List.getElem_cons_zero]); (try dsimp only at hSw); go_simp; (try (with_reducible rfl)))
  try simp only [Act.put, List.getElem_toArray, List.getElem_cons_succ, List.getElem_cons_zero, List.setIfInBounds_toArray, List.set_cons_zero, List.set_cons_succ]
  -- 17
  refine' wpAnyH_take (i := 17) (v := ?v17) rfl (by kernel_rfl) (by kernel_rfl) (by kernel_rfl) (fun _ _ _ h => h) (Or.inl ⟨by rfl, ?y17⟩) (by first | assumption | exact Ext.eq hE (by exact ⟨rfl, rfl, rfl, rfl⟩)) ?r17
  case y17 => (intro w hSw; (try simp only [List.getElem_toArray, List.getElem_cons_succ, List.getElem_cons_zero]); (try dsimp only at hSw); go_simp; (try (with_reducible rfl)))
  try simp only [Act.put, List.getElem_toArray, List.getElem_cons_succ, List.getElem_cons_zero, List.setIfInBounds_toArray, List.set_cons_zero, List.set_cons_succ]
  -- 18
  refine' wpAnyH_take (i := 18) (v := ?v18) rfl (by kernel_rfl) (by kernel_rfl) (by kernel_rfl) (fun _ _ _ h => h) (Or.inl ⟨by rfl, ?y18⟩) (by first | assumption | exact Ext.eq hE (by exact ⟨rfl, rfl, rfl, rfl⟩)) ?r18
  case y18 => (intro w hSw; (try simp only [List.getElem_toArray, List.getElem_cons_succ, List.getElem_cons_zero]); (try dsimp only at hSw); go_simp; (try (with_reducible rfl)))
  try simp only [Act.put, List.getElem_toArray, List.getElem_cons_succ, List.getElem_cons_zero, List.setIfInBounds_toArray, List.set_cons_zero, List.set_cons_succ]
  -- 19
  refine' wpAnyH_take (i := 19) (v := ?v19) rfl (by kernel_rfl) (by kernel_rfl) (by kernel_rfl) (fun _ _ _ h => h) (Or.inl ⟨by rfl, ?y19⟩) (by first | assumption | exact Ext.eq hE (by exact ⟨rfl, rfl, rfl, rfl⟩)) ?r19
  case y19 => (intro w hSw; (try simp only [List.getElem_toArray, List.getElem_cons_succ, List.getElem_cons_zero]); (try dsimp only at hSw); go_simp; (try (with_reducible rfl)))
  try simp only [Act.put, List.getElem_toArray, List.getElem_cons_succ, List.getElem_cons_zero, List.setIfInBounds_toArray, List.set_cons_zero, List.set_cons_succ]
  refine wpAnyH_done (by kernel_rfl) ?_ _
  refine NoPanic.normal ?_
  go_wp2
  go_ret
  exact ⟨rfl, below_tr B1 (by first | exact hE | exact Ext.eq hE ⟨rfl, rfl, rfl, rfl⟩)⟩

end Go.Proofs.Ytegalldldcaocaa
