/-
The law IsaTells of chapter 2 answers true, whatever its arguments are.
-/
import Derived.Test.YtegalldldcaocaaIsaLaw
namespace Go.Proofs.Ytegalldldcaocaa
open Go.RowKit

set_option maxHeartbeats 4000000 in
theorem isaTells_any (op d a b imm x n : Int) (w : World) (h0 : 0 ≤ x) (h1 : x < 4294967296) :
    Calls Try.prog 3 #[.agg #[.int .i64 op, .int .i64 d, .int .i64 a, .int .i64 b, .int .i64 imm], .int .u32 x, .int .i64 n] w fun e w' => e = .returned (.bool true) ∧ Below w.heap.size w w' := by
  obtain ⟨et, et1⟩ : ∃ et, encT ⟨op, d, a, b, imm⟩ = et := ⟨_, rfl⟩
  obtain ⟨dt, dt1⟩ : ∃ dt, decT x = dt := ⟨_, rfl⟩
  obtain ⟨i, hi⟩ : ∃ i : Ins, i = ⟨op, d, a, b, imm⟩ := ⟨_, rfl⟩
  have He := hid (fun w => encode_any i w)
  have Hre := hid (fun w => refEncode_any i w)
  have Hd := hid (fun w => decode_any x h0 h1 w)
  have Hrd := hid (fun w => refDecode_any x h0 h1 w)
  have Hr := hid (fun w => right_any i w)
  have Hrr := hid (fun w => refRight_any i w)
  have Hs := hid (fun w => reads_any i w)
  have Hrs := hid (fun w => refReads_any i w)
  have Hw := hid (fun w => writes_any i w)
  have Hrw := hid (fun w => refWrites_any i w)
  rw [hi] at He Hre Hr Hrr Hs Hrs Hw Hrw
  unfold Ins.val at He Hre Hr Hrr Hs Hrs Hw Hrw
  rw [dt1] at Hd Hrd
  rw [et1] at He Hre
  clear hi i et1 dt1
  obtain ⟨⟨o2, d2, a2, b2, m2⟩, r2⟩ := dt
  obtain ⟨et, er⟩ := et
  simp only [Ins.val] at Hd Hrd
  go_enter Try.func3, Try.ntmps3
  go_wp2_with fail
  refine (alive2_any _).mono ?_
  rintro e w1 ⟨rfl, b1⟩
  have x1 := (BoxI.new w op d a b imm 23).below b1
  have B1 := below_tr (below_al (Below.refl _ _) _) b1
  obtain ⟨k0, k1, k2, k3, k4⟩ := x1
  clear b1
  go_wp2_with fail
  refine (He.out _).mono ?_
  rintro e w2 ⟨rfl, b2⟩
  have x2 := BoxI.below (i := ⟨op, d, a, b, imm⟩) ⟨k0, k1, k2, k3, k4⟩ b2
  have B2 := below_tr B1 b2
  clear k0 k1 k2 k3 k4 b2
  obtain ⟨k0, k1, k2, k3, k4⟩ := x2
  go_wp2_with fail
  refine (Hre.out _).mono ?_
  rintro e w3 ⟨rfl, b3⟩
  have x3 := BoxI.below (i := ⟨op, d, a, b, imm⟩) ⟨k0, k1, k2, k3, k4⟩ b3
  have B3 := below_tr B2 b3
  clear k0 k1 k2 k3 k4 b3
  go_wp2_with fail
  refine (Hd.out _).mono ?_
  rintro e w4 ⟨rfl, b4⟩
  have x4 := (x3.below b4).al (.cells #[.int .i64 o2, .int .i64 d2, .int .i64 a2, .int .i64 b2, .int .i64 m2] 23)
  have y4 := BoxI.new w4 o2 d2 a2 b2 m2 23
  have B4 := below_al (below_tr B3 b4) (.cells #[.int .i64 o2, .int .i64 d2, .int .i64 a2, .int .i64 b2, .int .i64 m2] 23)
  go_wp2_with fail
  refine (Hrd.out _).mono ?_
  rintro e w5 ⟨rfl, b5⟩
  have x5 := (x4.below b5).al (.cells #[.int .i64 o2, .int .i64 d2, .int .i64 a2, .int .i64 b2, .int .i64 m2] 23)
  have y5 := (y4.below b5).al (.cells #[.int .i64 o2, .int .i64 d2, .int .i64 a2, .int .i64 b2, .int .i64 m2] 23)
  have z5 := BoxI.new w5 o2 d2 a2 b2 m2 23
  have B5 := below_al (below_tr B4 b5) (.cells #[.int .i64 o2, .int .i64 d2, .int .i64 a2, .int .i64 b2, .int .i64 m2] 23)
  clear x4 y4 B4 b5 B3 b4 x3 B2 B1
  go_wp2_with fail
  obtain ⟨w6, hw6⟩ : ∃ w6, w6 = w5.alloc (.cells #[.int .i64 o2, .int .i64 d2, .int .i64 a2, .int .i64 b2, .int .i64 m2] 23) := ⟨_, rfl⟩
  rw [← hw6] at x5 y5 z5 B5 ⊢
  obtain ⟨kx0, kx1, kx2, kx3, kx4⟩ := x5.ext
  obtain ⟨ky0, ky1, ky2, ky3, ky4⟩ := y5.ext
  obtain ⟨kz0, kz1, kz2, kz3, kz4⟩ := z5.ext
  have hE := Ext.drew w6
  clear x5 y5 z5 hw6
  go_region_held3 (fun W => Ext w6 W) (first | exact hE | exact Ext.eq hE (by exact ⟨rfl, rfl, rfl, rfl⟩)) (first | (go_at_call 15; refine (form_any _ _).mono ?_; rintro e w9 ⟨rfl, rfl⟩) | (go_at_call 16; refine (refForm_any _ _).mono ?_; rintro e w9 ⟨rfl, rfl⟩) | (go_at_call 17; refine (Hr.out _).mono ?_; rintro e w9 ⟨rfl, b9⟩; have hE' := Ext.tr hE b9 (by exact ⟨rfl, rfl, rfl, rfl⟩); clear hE b9; have hE := hE'; clear hE') | (go_at_call 18; refine (Hrr.out _).mono ?_; rintro e w9 ⟨rfl, b9⟩; have hE' := Ext.tr hE b9 (by exact ⟨rfl, rfl, rfl, rfl⟩); clear hE b9; have hE := hE'; clear hE') | (go_at_call 22; refine (Hw.out _).mono ?_; rintro e w9 ⟨rfl, b9⟩; have hE' := Ext.tr hE b9 (by exact ⟨rfl, rfl, rfl, rfl⟩); clear hE b9; have hE := hE'; clear hE') | (go_at_call 23; refine (Hrw.out _).mono ?_; rintro e w9 ⟨rfl, b9⟩; have hE' := Ext.tr hE b9 (by exact ⟨rfl, rfl, rfl, rfl⟩); clear hE b9; have hE := hE'; clear hE') | (go_at_call 20; refine (Hs.out _).mono ?_; rintro e w9 ⟨v9, rfl, o9, b9⟩; obtain ⟨A9, c9, e9, r9, q9⟩ := own_rd o9; subst e9; clear o9 q9; have hE' := Ext.tr hE b9 (by exact ⟨rfl, rfl, rfl, rfl⟩); clear hE b9; have hE := hE'; clear hE') | (go_at_call 21; refine (Hrs.out _).mono ?_; rintro e w8 ⟨v8, rfl, o8, b8⟩; obtain ⟨A8, c8, e8, r8, q8⟩ := own_rd o8; subst e8; have r9' := r9.below b8; have hE' := Ext.tr hE b8 (by exact ⟨rfl, rfl, rfl, rfl⟩); clear o8 hE b8 r9; have hE := hE'; clear hE') | (go_at_call 19; refine (same_eq _ _ rfl _ _ _ _ _ q8.2 r9' r8).mono ?_; rintro e w7 ⟨rfl, n7, rfl⟩))
  go_wp2
  go_ret
  exact ⟨rfl, below_tr B5 (by first | exact hE | exact Ext.eq hE ⟨rfl, rfl, rfl, rfl⟩)⟩

end Go.Proofs.Ytegalldldcaocaa
