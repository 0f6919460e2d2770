/-
The law WordTells of chapter 1 answers true, whatever its arguments are.
-/
import Derived.Test.YtgamljjoehncbaaWordLaws
import Derived.Test.YtgamljjoehncbaaReg
namespace Go.Proofs.Ytgamljjoehncbaa
open Go.RowKit

theorem Rd.eqw {W W1 : World} {A : Option Addr} {vs : List Value} (h : Rd W A vs) (e : Eqw W1 W) : Rd W1 A vs := h.below (bl_eq (Below.refl _ _) e)

set_option maxHeartbeats 8000000 in
set_option maxRecDepth 100000 in
theorem wordTells_any (xs : List Int) (A : Option Addr) (n c : Nat) (hn : xs.length = n) (x m at_ : Int) (w : World) (hB : Bytes xs) (hm : n ≤ 9223372036854775807) (hr : Rd w A (nums .u8 xs)) (h0 : 0 ≤ x) (h1 : x < 4294967296) :
    Calls Try.prog 4 #[.slice A n c, .int .u32 x, .int .i64 m, .int .i64 at_] w fun e w' => e = .returned (.bool true) ∧ Below w.heap.size w w' := by
  by_cases c1 : (200 : Int) < n
  · go_enter Try.func4, Try.ntmps4
    go_wp2_with fail
    refine (alive1_any _).mono ?_
    rintro e w1 ⟨rfl, hb⟩
    go_wp2
    go_ret
    exact ⟨rfl, hb⟩
  · subst hn
    go_enter Try.func4, Try.ntmps4
    go_wp2_with fail
    refine (alive1_any _).mono ?_
    rintro e w1 ⟨rfl, hb⟩
    have hr1 := hr.below hb
    have hs1 := hb.size
    go_wp2_with (at_builtin; refine wpl_append w.heap.size rfl 28 5 (.int .u8 0) 1 1 Try.underlying28 (by kernel_rfl) rfl (by omega) (by omega) _ 0 [] (own_nil _ _ _ _) A xs.length c (nums .u8 xs) rfl hr1 (by simp) (nums_one _ _) (by omega) hs1 ?_)
    intro v2 w2 o2 g2 b2
    have hb2 : Below w.heap.size w w2 := hb.grown g2 hs1 (own_base (own_nil w _ 5 1))
    obtain ⟨A2, c2, rfl, hr2, _⟩ := own_rd o2
    clear o2 g2 b2
    have hr2' := hr.below hb2
    go_wp2_with fail
    refine (get_any xs A2 _ _ (by simp) at_ _ hB (by omega) hr2).mono ?_
    rintro e w3 ⟨rfl, rfl⟩
    go_wp2_with fail
    refine (refGet_any xs A _ _ rfl at_ _ hB (by omega) hr2').mono ?_
    rintro e w3 ⟨rfl, nq, rfl⟩
    go_wp2_with fail
    have e1 : (m % 4294967296 == IntKind.u32.wrap m) = true := by rw [IntKind.wrap_u32]; exact beq_self_eq_true _
    have hr0 := hr2'.eqw (W1 := (w2.drewN nq).drew) ⟨rfl, rfl, rfl, rfl⟩
    have hB0 : Below w.heap.size w (w2.drewN nq).drew := bl_eq hb2 ⟨rfl, rfl, rfl, rfl⟩
    clear hr2' hr2 hb2 hr1 hs1 hb
    obtain ⟨w0, hw0⟩ : ∃ w0, w0 = (w2.drewN nq).drew := ⟨_, rfl⟩
    refine wp_region_held_np (S := fun W => Ext w0 W) 36 rfl (by kernel_rfl) ?_
    rw [← hw0] at hr0 hB0 ⊢
    clear hw0
    have hS0 : Ext w0 w0 := Ext.refl w0
    -- 0
    refine' wpAnyH_take (i := 0) (v := ?v0) rfl (by kernel_rfl) (by kernel_rfl) (by kernel_rfl) (fun _ _ _ h => h) (Or.inl ⟨by rfl, ?y0⟩) (by assumption) ?r0
    case y0 => (intro w hSw; (try simp only [List.getElem_toArray, List.getElem_cons_succ, List.getElem_cons_zero]); (try dsimp only at hSw); go_simp; (try (with_reducible rfl)))
    try simp only [Act.put, List.getElem_toArray, List.getElem_cons_succ, List.getElem_cons_zero, List.setIfInBounds_toArray, List.set_cons_zero, List.set_cons_succ]
    -- 2
    refine' wpAnyH_take (i := 2) (v := ?v2) rfl (by kernel_rfl) (by kernel_rfl) (by kernel_rfl) (fun _ _ _ h => h) (Or.inl ⟨by rfl, ?y2⟩) (by assumption) ?r2
    case y2 => (intro w hSw; (try simp only [List.getElem_toArray, List.getElem_cons_succ, List.getElem_cons_zero]); (try dsimp only at hSw); go_simp; (try (with_reducible rfl)))
    try simp only [Act.put, List.getElem_toArray, List.getElem_cons_succ, List.getElem_cons_zero, List.setIfInBounds_toArray, List.set_cons_zero, List.set_cons_succ]
    -- 3
    refine' wpAnyH_take (i := 3) (v := ?v3) rfl (by kernel_rfl) (by kernel_rfl) (by kernel_rfl) (fun _ _ _ h => h) (Or.inl ⟨by rfl, ?y3⟩) (by assumption) ?r3
    case y3 => (intro w hSw; (try simp only [List.getElem_toArray, List.getElem_cons_succ, List.getElem_cons_zero]); (try dsimp only at hSw); go_simp; (try (with_reducible rfl)))
    try simp only [Act.put, List.getElem_toArray, List.getElem_cons_succ, List.getElem_cons_zero, List.setIfInBounds_toArray, List.set_cons_zero, List.set_cons_succ]
    -- effect 1
    refine wpAnyH_all (rs := [1]) (by kernel_rfl) (by simp) ?_
    intro i0 hi0
    obtain rfl : i0 = 1 := by simpa using hi0
    clear hi0
    refine wpOp_do rfl (by rfl) (fun K hK => ?_)
    simp only [List.getElem_toArray, List.getElem_cons_succ, List.getElem_cons_zero]
    go_simp
    refine (of_any _ _).mono ?_
    rintro e9 w9 ⟨rfl, rfl⟩
    refine hK _ _ ⟨by assumption, ?_⟩
    clear hK K
    try simp only [Act.put, List.getElem_toArray, List.getElem_cons_succ, List.getElem_cons_zero, List.setIfInBounds_toArray, List.set_cons_zero, List.set_cons_succ]
    -- 4
    refine' wpAnyH_take (i := 4) (v := ?v4) rfl (by kernel_rfl) (by kernel_rfl) (by kernel_rfl) (fun _ _ _ h => h) (Or.inl ⟨by rfl, ?y4⟩) (by assumption) ?r4
    case y4 => (intro w hSw; (try simp only [List.getElem_toArray, List.getElem_cons_succ, List.getElem_cons_zero]); (try dsimp only at hSw); go_simp; (try (with_reducible rfl)))
    try simp only [Act.put, List.getElem_toArray, List.getElem_cons_succ, List.getElem_cons_zero, List.setIfInBounds_toArray, List.set_cons_zero, List.set_cons_succ]
    -- 5
    refine' wpAnyH_take (i := 5) (v := ?v5) rfl (by kernel_rfl) (by kernel_rfl) (by kernel_rfl) (fun _ _ _ h => h) (Or.inl ⟨by rfl, ?y5⟩) (by assumption) ?r5
    case y5 => (intro w hSw; (try simp only [List.getElem_toArray, List.getElem_cons_succ, List.getElem_cons_zero]); (try dsimp only at hSw); go_simp; (try (with_reducible rfl)))
    try simp only [Act.put, List.getElem_toArray, List.getElem_cons_succ, List.getElem_cons_zero, List.setIfInBounds_toArray, List.set_cons_zero, List.set_cons_succ]
    -- 6
    refine' wpAnyH_take (i := 6) (v := ?v6) rfl (by kernel_rfl) (by kernel_rfl) (by kernel_rfl) (fun _ _ _ h => h) (Or.inl ⟨by rfl, ?y6⟩) (by assumption) ?r6
    case y6 => (intro w hSw; (try simp only [List.getElem_toArray, List.getElem_cons_succ, List.getElem_cons_zero]); (try dsimp only at hSw); go_simp; (try (with_reducible rfl)))
    try simp only [Act.put, List.getElem_toArray, List.getElem_cons_succ, List.getElem_cons_zero, List.setIfInBounds_toArray, List.set_cons_zero, List.set_cons_succ]
    -- 8
    refine' wpAnyH_take (i := 8) (v := ?v8) rfl (by kernel_rfl) (by kernel_rfl) (by kernel_rfl) (fun _ _ _ h => h) (Or.inl ⟨by rfl, ?y8⟩) (by assumption) ?r8
    case y8 => (intro w hSw; (try simp only [List.getElem_toArray, List.getElem_cons_succ, List.getElem_cons_zero]); (try dsimp only at hSw); go_simp; (try (with_reducible rfl)))
    try simp only [Act.put, List.getElem_toArray, List.getElem_cons_succ, List.getElem_cons_zero, List.setIfInBounds_toArray, List.set_cons_zero, List.set_cons_succ]
    -- effect 7
    refine wpAnyH_all (rs := [7]) (by kernel_rfl) (by simp) ?_
    intro i0 hi0
    obtain rfl : i0 = 7 := by simpa using hi0
    clear hi0
    refine wpOp_do rfl (by rfl) (fun K hK => ?_)
    simp only [List.getElem_toArray, List.getElem_cons_succ, List.getElem_cons_zero]
    go_simp
    refine (int_any _ h0 h1 _).mono ?_
    rintro e9 w9 ⟨rfl, rfl⟩
    refine hK _ _ ⟨by assumption, ?_⟩
    clear hK K
    try simp only [Act.put, List.getElem_toArray, List.getElem_cons_succ, List.getElem_cons_zero, List.setIfInBounds_toArray, List.set_cons_zero, List.set_cons_succ]
    -- effect 9
    refine wpAnyH_all (rs := [9]) (by kernel_rfl) (by simp) ?_
    intro i0 hi0
    obtain rfl : i0 = 9 := by simpa using hi0
    clear hi0
    refine wpOp_do rfl (by rfl) (fun K hK => ?_)
    simp only [List.getElem_toArray, List.getElem_cons_succ, List.getElem_cons_zero]
    go_simp
    refine (refInt_any _ h0 h1 _).mono ?_
    rintro e9 w9 ⟨rfl, rfl⟩
    refine hK _ _ ⟨by assumption, ?_⟩
    clear hK K
    try simp only [Act.put, List.getElem_toArray, List.getElem_cons_succ, List.getElem_cons_zero, List.setIfInBounds_toArray, List.set_cons_zero, List.set_cons_succ]
    -- 10
    refine' wpAnyH_take (i := 10) (v := ?v10) rfl (by kernel_rfl) (by kernel_rfl) (by kernel_rfl) (fun _ _ _ h => h) (Or.inl ⟨by rfl, ?y10⟩) (by assumption) ?r10
    case y10 => (intro w hSw; (try simp only [List.getElem_toArray, List.getElem_cons_succ, List.getElem_cons_zero]); (try dsimp only at hSw); go_simp; (try (with_reducible rfl)))
    try simp only [Act.put, List.getElem_toArray, List.getElem_cons_succ, List.getElem_cons_zero, List.setIfInBounds_toArray, List.set_cons_zero, List.set_cons_succ]
    -- 11
    refine' wpAnyH_take (i := 11) (v := ?v11) rfl (by kernel_rfl) (by kernel_rfl) (by kernel_rfl) (fun _ _ _ h => h) (Or.inl ⟨by rfl, ?y11⟩) (by assumption) ?r11
    case y11 => (intro w hSw; (try simp only [List.getElem_toArray, List.getElem_cons_succ, List.getElem_cons_zero]); (try dsimp only at hSw); go_simp; (try (with_reducible rfl)))
    try simp only [Act.put, List.getElem_toArray, List.getElem_cons_succ, List.getElem_cons_zero, List.setIfInBounds_toArray, List.set_cons_zero, List.set_cons_succ]
    -- 12
    refine' wpAnyH_take (i := 12) (v := ?v12) rfl (by kernel_rfl) (by kernel_rfl) (by kernel_rfl) (fun _ _ _ h => h) (Or.inl ⟨by rfl, ?y12⟩) (by assumption) ?r12
    case y12 => (intro w hSw; (try simp only [List.getElem_toArray, List.getElem_cons_succ, List.getElem_cons_zero]); (try dsimp only at hSw); go_simp; (try (with_reducible rfl)))
    try simp only [Act.put, List.getElem_toArray, List.getElem_cons_succ, List.getElem_cons_zero, List.setIfInBounds_toArray, List.set_cons_zero, List.set_cons_succ]
    -- 13
    refine' wpAnyH_take (i := 13) (v := ?v13) rfl (by kernel_rfl) (by kernel_rfl) (by kernel_rfl) (fun _ _ _ h => h) (Or.inl ⟨by rfl, ?y13⟩) (by assumption) ?r13
    case y13 => (intro w hSw; (try simp only [List.getElem_toArray, List.getElem_cons_succ, List.getElem_cons_zero]); (try dsimp only at hSw); go_simp; (try (with_reducible rfl)))
    try simp only [Act.put, List.getElem_toArray, List.getElem_cons_succ, List.getElem_cons_zero, List.setIfInBounds_toArray, List.set_cons_zero, List.set_cons_succ]
    -- 15
    refine' wpAnyH_take (i := 15) (v := ?v15) rfl (by kernel_rfl) (by kernel_rfl) (by kernel_rfl) (fun _ _ _ h => h) (Or.inl ⟨by rfl, ?y15⟩) (by assumption) ?r15
    case y15 => (intro w hSw; (try simp only [List.getElem_toArray, List.getElem_cons_succ, List.getElem_cons_zero]); (try dsimp only at hSw); go_simp; (try (with_reducible rfl)))
    try simp only [Act.put, List.getElem_toArray, List.getElem_cons_succ, List.getElem_cons_zero, List.setIfInBounds_toArray, List.set_cons_zero, List.set_cons_succ]
    -- 18
    refine' wpAnyH_take (i := 18) (v := ?v18) rfl (by kernel_rfl) (by kernel_rfl) (by kernel_rfl) (fun _ _ _ h => h) (Or.inl ⟨by rfl, ?y18⟩) (by assumption) ?r18
    case y18 => (intro w hSw; (try simp only [List.getElem_toArray, List.getElem_cons_succ, List.getElem_cons_zero]); (try dsimp only at hSw); go_simp; (try (with_reducible rfl)))
    try simp only [Act.put, List.getElem_toArray, List.getElem_cons_succ, List.getElem_cons_zero, List.setIfInBounds_toArray, List.set_cons_zero, List.set_cons_succ]
    -- 20
    refine' wpAnyH_take (i := 20) (v := ?v20) rfl (by kernel_rfl) (by kernel_rfl) (by kernel_rfl) (fun _ _ _ h => h) (Or.inl ⟨by rfl, ?y20⟩) (by assumption) ?r20
    case y20 => (intro w hSw; (try simp only [List.getElem_toArray, List.getElem_cons_succ, List.getElem_cons_zero]); (try dsimp only at hSw); go_simp; (try (with_reducible rfl)))
    try simp only [Act.put, List.getElem_toArray, List.getElem_cons_succ, List.getElem_cons_zero, List.setIfInBounds_toArray, List.set_cons_zero, List.set_cons_succ]
    -- effect 14
    refine wpAnyH_all (rs := [14]) (by kernel_rfl) (by simp) ?_
    intro i0 hi0
    obtain rfl : i0 = 14 := by simpa using hi0
    clear hi0
    refine wpOp_do rfl (by rfl) (fun K hK => ?_)
    simp only [List.getElem_toArray, List.getElem_cons_succ, List.getElem_cons_zero]
    refine st_clone 28 5 (.int .u8 0) 1 1 Try.underlying28 (by kernel_rfl) rfl Nat.one_pos Nat.one_pos A xs.length c (nums .u8 xs) ?_ ?_ (by simp) (nums_one _ _) (by omega) ?_
    · simp [appArgs, Act.eval]
    · exact hr0.eqw ⟨rfl, rfl, rfl, rfl⟩
    intro A3 c3 w3 r3 o3 k3
    have hE3 : Ext w0 w3 := Ext.tr (Ext.refl w0) k3 (by exact ⟨rfl, rfl, rfl, rfl⟩)
    refine hK _ _ ⟨hE3, ?_⟩
    clear hK K
    have hr0' := hr0.below hE3
    try simp only [Act.put, List.getElem_toArray, List.getElem_cons_succ, List.getElem_cons_zero, List.setIfInBounds_toArray, List.set_cons_zero, List.set_cons_succ]
    -- effect 16
    refine wpAnyH_all (rs := [16]) (by kernel_rfl) (by simp) ?_
    intro i0 hi0
    obtain rfl : i0 = 16 := by simpa using hi0
    clear hi0
    refine wpOp_do rfl (by rfl) (fun K hK => ?_)
    simp only [List.getElem_toArray, List.getElem_cons_succ, List.getElem_cons_zero]
    go_simp
    refine (put_any xs _ _ _ rfl x _ h0 h1 (by omega) r3).mono ?_
    rintro e9 w4 ⟨v4, rfl, o4, k4⟩
    obtain ⟨A4, c4, rfl, r4, q4⟩ := own_rd o4
    have hE4 : Ext w0 w4 := Ext.tr hE3 k4 (by exact ⟨rfl, rfl, rfl, rfl⟩)
    refine hK _ _ ⟨hE4, ?_⟩
    clear hK K
    have hS4 : Ext w4 w4 := Ext.refl w4
    refine wpAnyH_strong (S' := fun W => Ext w4 W) (fun W hW => below_tr hE4 hW) ?_
    have cv4 : ∀ W, Ext w4 W → (convert 28 9 (.slice A4 (xs.length + 4) c4)).run Try.prog W = .ok (.string (strOfNums (xs ++ put4 x))) W := fun W hW => conv_rd (P := Try.prog) (c := c4) (r4.below hW) (by simp [put4]) 28 5 Try.underlying28 Try.underlying5 9 Try.underlying9
    try simp only [Act.put, List.getElem_toArray, List.getElem_cons_succ, List.getElem_cons_zero, List.setIfInBounds_toArray, List.set_cons_zero, List.set_cons_succ]
    -- 17
    refine' wpAnyH_take (i := 17) (v := ?v17) rfl (by kernel_rfl) (by kernel_rfl) (by kernel_rfl) (fun _ _ _ h => h) (Or.inl ⟨by rfl, ?y17⟩) (by assumption) ?r17
    case y17 => (intro w hSw; (try simp only [List.getElem_toArray, List.getElem_cons_succ, List.getElem_cons_zero]); (try dsimp only at hSw); go_simp; (try (with_reducible rfl)))
    try simp only [Act.put, List.getElem_toArray, List.getElem_cons_succ, List.getElem_cons_zero, List.setIfInBounds_toArray, List.set_cons_zero, List.set_cons_succ]
    -- effect 19
    refine wpAnyH_all (rs := [19]) (by kernel_rfl) (by simp) ?_
    intro i0 hi0
    obtain rfl : i0 = 19 := by simpa using hi0
    clear hi0
    refine wpOp_do rfl (by rfl) (fun K hK => ?_)
    simp only [List.getElem_toArray, List.getElem_cons_succ, List.getElem_cons_zero]
    have hr4 := hr0.below hE4
    refine st_clone 28 5 (.int .u8 0) 1 1 Try.underlying28 (by kernel_rfl) rfl Nat.one_pos Nat.one_pos A xs.length c (nums .u8 xs) ?_ ?_ (by simp) (nums_one _ _) (by omega) ?_
    · simp [appArgs, Act.eval]
    · exact hr4.eqw ⟨rfl, rfl, rfl, rfl⟩
    intro A5 c5 w5 r5 o5 k5
    have hE5 : Ext w4 w5 := Ext.tr (Ext.refl w4) k5 (by exact ⟨rfl, rfl, rfl, rfl⟩)
    refine hK _ _ ⟨hE5, ?_⟩
    clear hK K
    try simp only [Act.put, List.getElem_toArray, List.getElem_cons_succ, List.getElem_cons_zero, List.setIfInBounds_toArray, List.set_cons_zero, List.set_cons_succ]
    -- effect 21
    refine wpAnyH_all (rs := [21]) (by kernel_rfl) (by simp) ?_
    intro i0 hi0
    obtain rfl : i0 = 21 := by simpa using hi0
    clear hi0
    refine wpOp_do rfl (by rfl) (fun K hK => ?_)
    simp only [List.getElem_toArray, List.getElem_cons_succ, List.getElem_cons_zero]
    go_simp
    refine (refPut_any _ _ _ xs x _ h0 h1 (by omega) o5 hE5.size).mono ?_
    rintro e9 w6 ⟨v6, rfl, o6, k6, g6⟩
    obtain ⟨A6, c6, rfl, r6, q6⟩ := own_rd o6
    have hE6 : Ext w4 w6 := ⟨k6.os.trans hE5.os, k6.tape.trans hE5.tape, k6.output.trans hE5.output, Nat.le_trans hE5.size k6.size, fun k hk => (k6.block k hk).trans (hE5.block k hk)⟩
    refine hK _ _ ⟨hE6, ?_⟩
    clear hK K
    have hS6 : Ext w6 w6 := Ext.refl w6
    refine wpAnyH_strong (S' := fun W => Ext w6 W) (fun W hW => below_tr hE6 hW) ?_
    have cv6 : ∀ W, Ext w6 W → (convert 28 9 (.slice A6 (xs.length + 4) c6)).run Try.prog W = .ok (.string (strOfNums (xs ++ put4 x))) W := fun W hW => conv_rd (P := Try.prog) (c := c6) (r6.below hW) (by simp [put4]) 28 5 Try.underlying28 Try.underlying5 9 Try.underlying9
    try simp only [Act.put, List.getElem_toArray, List.getElem_cons_succ, List.getElem_cons_zero, List.setIfInBounds_toArray, List.set_cons_zero, List.set_cons_succ]
    -- 22
    refine' wpAnyH_take (i := 22) (v := ?v22) rfl (by kernel_rfl) (by kernel_rfl) (by kernel_rfl) (fun _ _ _ h => h) (Or.inl ⟨by rfl, ?y22⟩) (by assumption) ?r22
    case y22 => (intro w hSw; (try simp only [List.getElem_toArray, List.getElem_cons_succ, List.getElem_cons_zero]); (try dsimp only at hSw); go_simp; (try (with_reducible rfl)))
    try simp only [Act.put, List.getElem_toArray, List.getElem_cons_succ, List.getElem_cons_zero, List.setIfInBounds_toArray, List.set_cons_zero, List.set_cons_succ]
    -- 23
    refine' wpAnyH_take (i := 23) (v := ?v23) rfl (by kernel_rfl) (by kernel_rfl) (by kernel_rfl) (fun _ _ _ h => h) (Or.inl ⟨by rfl, ?y23⟩) (by assumption) ?r23
    case y23 => (intro w hSw; (try simp only [List.getElem_toArray, List.getElem_cons_succ, List.getElem_cons_zero]); (try dsimp only at hSw); go_simp; (try (with_reducible rfl)))
    try simp only [Act.put, List.getElem_toArray, List.getElem_cons_succ, List.getElem_cons_zero, List.setIfInBounds_toArray, List.set_cons_zero, List.set_cons_succ]
    -- 24
    refine' wpAnyH_take (i := 24) (v := ?v24) rfl (by kernel_rfl) (by kernel_rfl) (by kernel_rfl) (fun _ _ _ h => h) (Or.inl ⟨by rfl, ?y24⟩) (by assumption) ?r24
    case y24 => (intro w hSw; (try simp only [List.getElem_toArray, List.getElem_cons_succ, List.getElem_cons_zero]); (try dsimp only at hSw); go_simp; (try (with_reducible rfl)))
    try simp only [Act.put, List.getElem_toArray, List.getElem_cons_succ, List.getElem_cons_zero, List.setIfInBounds_toArray, List.set_cons_zero, List.set_cons_succ]
    -- 25
    refine' wpAnyH_take (i := 25) (v := ?v25) rfl (by kernel_rfl) (by kernel_rfl) (by kernel_rfl) (fun _ _ _ h => h) (Or.inl ⟨by rfl, ?y25⟩) (by assumption) ?r25
    case y25 => (intro w hSw; (try simp only [List.getElem_toArray, List.getElem_cons_succ, List.getElem_cons_zero]); (try dsimp only at hSw); go_simp; (try (with_reducible rfl)))
    try simp only [Act.put, List.getElem_toArray, List.getElem_cons_succ, List.getElem_cons_zero, List.setIfInBounds_toArray, List.set_cons_zero, List.set_cons_succ]
    -- 26
    refine' wpAnyH_take (i := 26) (v := ?v26) rfl (by kernel_rfl) (by kernel_rfl) (by kernel_rfl) (fun _ _ _ h => h) (Or.inl ⟨by rfl, ?y26⟩) (by assumption) ?r26
    case y26 => (intro w hSw; (try simp only [List.getElem_toArray, List.getElem_cons_succ, List.getElem_cons_zero]); (try dsimp only at hSw); go_simp; (try (with_reducible rfl)))
    try simp only [Act.put, List.getElem_toArray, List.getElem_cons_succ, List.getElem_cons_zero, List.setIfInBounds_toArray, List.set_cons_zero, List.set_cons_succ]
    -- 27
    refine' wpAnyH_take (i := 27) (v := ?v27) rfl (by kernel_rfl) (by kernel_rfl) (by kernel_rfl) (fun _ _ _ h => h) (Or.inl ⟨by rfl, ?y27⟩) (by assumption) ?r27
    case y27 => (intro w hSw; (try simp only [List.getElem_toArray, List.getElem_cons_succ, List.getElem_cons_zero]); (try dsimp only at hSw); go_simp; (try (with_reducible rfl)))
    try simp only [Act.put, List.getElem_toArray, List.getElem_cons_succ, List.getElem_cons_zero, List.setIfInBounds_toArray, List.set_cons_zero, List.set_cons_succ]
    -- 28
    refine' wpAnyH_take (i := 28) (v := ?v28) rfl (by kernel_rfl) (by kernel_rfl) (by kernel_rfl) (fun _ _ _ h => h) (Or.inl ⟨by rfl, ?y28⟩) (by assumption) ?r28
    case y28 => (intro w hSw; (try simp only [List.getElem_toArray, List.getElem_cons_succ, List.getElem_cons_zero]); (try dsimp only at hSw); go_simp; (try (with_reducible rfl)))
    try simp only [Act.put, List.getElem_toArray, List.getElem_cons_succ, List.getElem_cons_zero, List.setIfInBounds_toArray, List.set_cons_zero, List.set_cons_succ]
    -- 29
    refine' wpAnyH_take (i := 29) (v := ?v29) rfl (by kernel_rfl) (by kernel_rfl) (by kernel_rfl) (fun _ _ _ h => h) (Or.inl ⟨by rfl, ?y29⟩) (by assumption) ?r29
    case y29 => (intro w hSw; (try simp only [List.getElem_toArray, List.getElem_cons_succ, List.getElem_cons_zero]); (try dsimp only at hSw); go_simp; (try (with_reducible rfl)))
    try simp only [Act.put, List.getElem_toArray, List.getElem_cons_succ, List.getElem_cons_zero, List.setIfInBounds_toArray, List.set_cons_zero, List.set_cons_succ]
    -- 30
    refine' wpAnyH_take (i := 30) (v := ?v30) rfl (by kernel_rfl) (by kernel_rfl) (by kernel_rfl) (fun _ _ _ h => h) (Or.inl ⟨by rfl, ?y30⟩) (by assumption) ?r30
    case y30 => (intro w hSw; (try simp only [List.getElem_toArray, List.getElem_cons_succ, List.getElem_cons_zero]); (try dsimp only at hSw); go_simp; (try (with_reducible rfl)))
    try simp only [Act.put, List.getElem_toArray, List.getElem_cons_succ, List.getElem_cons_zero, List.setIfInBounds_toArray, List.set_cons_zero, List.set_cons_succ]
    -- 31
    refine' wpAnyH_take (i := 31) (v := ?v31) rfl (by kernel_rfl) (by kernel_rfl) (by kernel_rfl) (fun _ _ _ h => h) (Or.inl ⟨by rfl, ?y31⟩) (by assumption) ?r31
    case y31 => (intro w hSw; (try simp only [List.getElem_toArray, List.getElem_cons_succ, List.getElem_cons_zero]); (try dsimp only at hSw); go_simp; (try (with_reducible rfl)))
    try simp only [Act.put, List.getElem_toArray, List.getElem_cons_succ, List.getElem_cons_zero, List.setIfInBounds_toArray, List.set_cons_zero, List.set_cons_succ]
    -- 32
    refine' wpAnyH_take (i := 32) (v := ?v32) rfl (by kernel_rfl) (by kernel_rfl) (by kernel_rfl) (fun _ _ _ h => h) (Or.inl ⟨by rfl, ?y32⟩) (by assumption) ?r32
    case y32 => (intro w hSw; (try simp only [List.getElem_toArray, List.getElem_cons_succ, List.getElem_cons_zero]); (try dsimp only at hSw); go_simp; (try (with_reducible rfl)))
    try simp only [Act.put, List.getElem_toArray, List.getElem_cons_succ, List.getElem_cons_zero, List.setIfInBounds_toArray, List.set_cons_zero, List.set_cons_succ]
    -- 33
    refine' wpAnyH_take (i := 33) (v := ?v33) rfl (by kernel_rfl) (by kernel_rfl) (by kernel_rfl) (fun _ _ _ h => h) (Or.inl ⟨by rfl, ?y33⟩) (by assumption) ?r33
    case y33 => (intro w hSw; (try simp only [List.getElem_toArray, List.getElem_cons_succ, List.getElem_cons_zero]); (try dsimp only at hSw); go_simp; (try (with_reducible rfl)))
    try simp only [Act.put, List.getElem_toArray, List.getElem_cons_succ, List.getElem_cons_zero, List.setIfInBounds_toArray, List.set_cons_zero, List.set_cons_succ]
    -- 34
    refine' wpAnyH_take (i := 34) (v := ?v34) rfl (by kernel_rfl) (by kernel_rfl) (by kernel_rfl) (fun _ _ _ h => h) (Or.inl ⟨by rfl, ?y34⟩) (by assumption) ?r34
    case y34 => (intro w hSw; (try simp only [List.getElem_toArray, List.getElem_cons_succ, List.getElem_cons_zero]); (try dsimp only at hSw); go_simp; (try (with_reducible rfl)))
    try simp only [Act.put, List.getElem_toArray, List.getElem_cons_succ, List.getElem_cons_zero, List.setIfInBounds_toArray, List.set_cons_zero, List.set_cons_succ]
    -- 35
    refine' wpAnyH_take (i := 35) (v := ?v35) rfl (by kernel_rfl) (by kernel_rfl) (by kernel_rfl) (fun _ _ _ h => h) (Or.inl ⟨by rfl, ?y35⟩) (by assumption) ?r35
    case y35 => (intro w hSw; (try simp only [List.getElem_toArray, List.getElem_cons_succ, List.getElem_cons_zero]); (try dsimp only at hSw); go_simp; (try (with_reducible rfl)))
    try simp only [Act.put, List.getElem_toArray, List.getElem_cons_succ, List.getElem_cons_zero, List.setIfInBounds_toArray, List.set_cons_zero, List.set_cons_succ]
    refine wpAnyH_done (by kernel_rfl) ?_ _
    refine NoPanic.normal ?_
    go_wp2
    go_ret
    exact ⟨rfl, below_tr hB0 (below_tr hE4 hE6)⟩

end Go.Proofs.Ytgamljjoehncbaa
