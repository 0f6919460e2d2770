/-
The laws IsaBack, IsaTurned and IsaReads of chapter 2 answer true, whatever their arguments are.
-/
import Derived.Test.YtegalldldcaocaaIsaL2
namespace Go.Proofs.Ytegalldldcaocaa
open Go.RowKit

set_option maxHeartbeats 2000000 in
theorem isaBack_n1 (op d a b imm op' d' a' b' imm' : Int) (w : World) (hr : rightB ⟨op, d, a, b, imm⟩ = false) :
    Calls Try.prog 4 #[.agg #[.int .i64 op, .int .i64 d, .int .i64 a, .int .i64 b, .int .i64 imm], .agg #[.int .i64 op', .int .i64 d', .int .i64 a', .int .i64 b', .int .i64 imm']] w fun e w' => e = .returned (.bool true) ∧ Below w.heap.size w w' := by
  have Hr := hid (fun w => refRight_any ⟨op, d, a, b, imm⟩ w)
  rw [hr] at Hr
  simp only [Ins.val] at Hr
  clear hr
  go_enter Try.func4, Try.ntmps4
  go_wp2_with fail
  refine (alive2_any _).mono ?_
  rintro e w1 ⟨rfl, b1⟩
  have x1 := ((BoxI.new w op d a b imm 23).al (.cells #[.int .i64 op', .int .i64 d', .int .i64 a', .int .i64 b', .int .i64 imm'] 23)).below b1
  have y1 := (BoxI.new (w.alloc (.cells #[.int .i64 op, .int .i64 d, .int .i64 a, .int .i64 b, .int .i64 imm] 23)) op' d' a' b' imm' 23).below b1
  rw [show (w.alloc (.cells #[.int .i64 op, .int .i64 d, .int .i64 a, .int .i64 b, .int .i64 imm] 23)).heap.size = w.heap.size + 1 by simp] at y1
  have B1 := below_tr (below_al (below_al (Below.refl _ _) _) _) b1
  obtain ⟨kx0, kx1, kx2, kx3, kx4⟩ := x1.ext
  obtain ⟨ky0, ky1, ky2, ky3, ky4⟩ := y1.ext
  have hE : Ext w1 w1 := Ext.refl w1
  clear b1 x1 y1
  go_wp2_with (first | (go_at_call 18; refine (Hr.out _).mono ?_; rintro e w9 ⟨rfl, b9⟩; have hE' := Ext.tr hE b9 (by exact ⟨rfl, rfl, rfl, rfl⟩); clear hE b9; have hE := hE'; clear hE'))
  go_ret
  exact ⟨rfl, below_tr B1 hE⟩

set_option maxHeartbeats 2000000 in
theorem isaBack_n2 (op d a b imm op' d' a' b' imm' : Int) (w : World) (hr : rightB ⟨op, d, a, b, imm⟩ = true) (hk : rightB ⟨op', d', a', b', imm'⟩ = false) :
    Calls Try.prog 4 #[.agg #[.int .i64 op, .int .i64 d, .int .i64 a, .int .i64 b, .int .i64 imm], .agg #[.int .i64 op', .int .i64 d', .int .i64 a', .int .i64 b', .int .i64 imm']] w fun e w' => e = .returned (.bool true) ∧ Below w.heap.size w w' := by
  have Hr := hid (fun w => refRight_any ⟨op, d, a, b, imm⟩ w)
  rw [hr] at Hr
  have Hk := hid (fun w => refRight_any ⟨op', d', a', b', imm'⟩ w)
  rw [hk] at Hk
  simp only [Ins.val] at Hr Hk
  clear hr hk
  go_enter Try.func4, Try.ntmps4
  go_wp2_with fail
  refine (alive2_any _).mono ?_
  rintro e w1 ⟨rfl, b1⟩
  have x1 := ((BoxI.new w op d a b imm 23).al (.cells #[.int .i64 op', .int .i64 d', .int .i64 a', .int .i64 b', .int .i64 imm'] 23)).below b1
  have y1 := (BoxI.new (w.alloc (.cells #[.int .i64 op, .int .i64 d, .int .i64 a, .int .i64 b, .int .i64 imm] 23)) op' d' a' b' imm' 23).below b1
  rw [show (w.alloc (.cells #[.int .i64 op, .int .i64 d, .int .i64 a, .int .i64 b, .int .i64 imm] 23)).heap.size = w.heap.size + 1 by simp] at y1
  have B1 := below_tr (below_al (below_al (Below.refl _ _) _) _) b1
  obtain ⟨kx0, kx1, kx2, kx3, kx4⟩ := x1.ext
  obtain ⟨ky0, ky1, ky2, ky3, ky4⟩ := y1.ext
  have hE : Ext w1 w1 := Ext.refl w1
  clear b1 x1 y1
  go_wp2_with fail
  refine (Hr.out _).mono ?_
  rintro e w9 ⟨rfl, b9⟩
  have hE' := Ext.tr hE b9 (by exact ⟨rfl, rfl, rfl, rfl⟩)
  clear hE b9
  have hE := hE'
  clear hE'
  go_wp2_with fail
  refine (Hk.out _).mono ?_
  rintro e w8 ⟨rfl, b9⟩
  have hE' := Ext.tr hE b9 (by exact ⟨rfl, rfl, rfl, rfl⟩)
  clear hE b9
  have hE := hE'
  clear hE'
  go_wp2
  go_ret
  exact ⟨rfl, below_tr B1 hE⟩

set_option maxHeartbeats 4000000 in
theorem isaBack_c0 (op d a b imm op' d' a' b' imm' : Int) (w : World) (e f : Int) (ne : (e == f) = false) (nx : (op == op') = false) (hr : rightB ⟨op, d, a, b, imm⟩ = true) (hk : rightB ⟨op', d', a', b', imm'⟩ = true) (he : encT ⟨op, d, a, b, imm⟩ = (e, true)) (hf : encT ⟨op', d', a', b', imm'⟩ = (f, true)) (hd : decT e = (⟨op, d, a, b, imm⟩, true)) (e0 : 0 ≤ e) (e1 : e < 4294967296) (q : (e / 67108864 == op) = true) :
    Calls Try.prog 4 #[.agg #[.int .i64 op, .int .i64 d, .int .i64 a, .int .i64 b, .int .i64 imm], .agg #[.int .i64 op', .int .i64 d', .int .i64 a', .int .i64 b', .int .i64 imm']] w fun e w' => e = .returned (.bool true) ∧ Below w.heap.size w w' := by
  have Hr := hid (fun w => refRight_any ⟨op, d, a, b, imm⟩ w)
  rw [hr] at Hr
  have Hk := hid (fun w => refRight_any ⟨op', d', a', b', imm'⟩ w)
  rw [hk] at Hk
  have He := hid (fun w => encode_any ⟨op, d, a, b, imm⟩ w)
  rw [he] at He
  have Hf := hid (fun w => encode_any ⟨op', d', a', b', imm'⟩ w)
  rw [hf] at Hf
  have Hd := hid (fun w => decode_any e e0 e1 w)
  rw [hd] at Hd
  simp only [Ins.val] at Hr Hk He Hf Hd
  clear hr hk he hf hd
  go_enter Try.func4, Try.ntmps4
  go_wp2_with fail
  refine (alive2_any _).mono ?_
  rintro e w1 ⟨rfl, b1⟩
  have x1 := ((BoxI.new w op d a b imm 23).al (.cells #[.int .i64 op', .int .i64 d', .int .i64 a', .int .i64 b', .int .i64 imm'] 23)).below b1
  have y1 := (BoxI.new (w.alloc (.cells #[.int .i64 op, .int .i64 d, .int .i64 a, .int .i64 b, .int .i64 imm] 23)) op' d' a' b' imm' 23).below b1
  rw [show (w.alloc (.cells #[.int .i64 op, .int .i64 d, .int .i64 a, .int .i64 b, .int .i64 imm] 23)).heap.size = w.heap.size + 1 by simp] at y1
  have B1 := below_tr (below_al (below_al (Below.refl _ _) _) _) b1
  obtain ⟨kx0, kx1, kx2, kx3, kx4⟩ := x1.ext
  obtain ⟨ky0, ky1, ky2, ky3, ky4⟩ := y1.ext
  have hE : Ext w1 w1 := Ext.refl w1
  clear b1 x1 y1
  go_wp2_with fail
  refine (Hr.out _).mono ?_
  rintro e w9 ⟨rfl, b9⟩
  have hE' := Ext.tr hE b9 (by exact ⟨rfl, rfl, rfl, rfl⟩)
  clear hE b9
  have hE := hE'
  clear hE'
  go_wp2_with fail
  refine (Hk.out _).mono ?_
  rintro e w8 ⟨rfl, b9⟩
  have hE' := Ext.tr hE b9 (by exact ⟨rfl, rfl, rfl, rfl⟩)
  clear hE b9
  have hE := hE'
  clear hE'
  go_wp2_with fail
  refine (He.out _).mono ?_
  rintro e w7 ⟨rfl, b9⟩
  have hE' := Ext.tr hE b9 (by exact ⟨rfl, rfl, rfl, rfl⟩)
  clear hE b9
  have hE := hE'
  clear hE'
  go_wp2_with fail
  refine (Hf.out _).mono ?_
  rintro e w6 ⟨rfl, b9⟩
  have hE' := Ext.tr hE b9 (by exact ⟨rfl, rfl, rfl, rfl⟩)
  clear hE b9
  have hE := hE'
  clear hE'
  go_wp2_with fail
  refine (Hd.out _).mono ?_
  rintro e9 w5 ⟨rfl, b9⟩
  have hE' := Ext.tr hE b9 (by exact ⟨rfl, rfl, rfl, rfl⟩)
  clear hE b9
  have hE := hE'
  clear hE'
  have hA : ∀ o, Ext w1 (w5.alloc o) := fun o => below_al hE o
  go_wp2
  go_ret
  exact ⟨rfl, below_al (below_tr B1 hE) _⟩

set_option maxHeartbeats 4000000 in
theorem isaBack_c1 (op d a b imm d' a' b' imm' : Int) (w : World) (e f : Int) (ne : (e == f) = false) (nx : (d == d') = false) (hr : rightB ⟨op, d, a, b, imm⟩ = true) (hk : rightB ⟨op, d', a', b', imm'⟩ = true) (he : encT ⟨op, d, a, b, imm⟩ = (e, true)) (hf : encT ⟨op, d', a', b', imm'⟩ = (f, true)) (hd : decT e = (⟨op, d, a, b, imm⟩, true)) (e0 : 0 ≤ e) (e1 : e < 4294967296) (q : (e / 67108864 == op) = true) :
    Calls Try.prog 4 #[.agg #[.int .i64 op, .int .i64 d, .int .i64 a, .int .i64 b, .int .i64 imm], .agg #[.int .i64 op, .int .i64 d', .int .i64 a', .int .i64 b', .int .i64 imm']] w fun e w' => e = .returned (.bool true) ∧ Below w.heap.size w w' := by
  have Hr := hid (fun w => refRight_any ⟨op, d, a, b, imm⟩ w)
  rw [hr] at Hr
  have Hk := hid (fun w => refRight_any ⟨op, d', a', b', imm'⟩ w)
  rw [hk] at Hk
  have He := hid (fun w => encode_any ⟨op, d, a, b, imm⟩ w)
  rw [he] at He
  have Hf := hid (fun w => encode_any ⟨op, d', a', b', imm'⟩ w)
  rw [hf] at Hf
  have Hd := hid (fun w => decode_any e e0 e1 w)
  rw [hd] at Hd
  simp only [Ins.val] at Hr Hk He Hf Hd
  clear hr hk he hf hd
  go_enter Try.func4, Try.ntmps4
  go_wp2_with fail
  refine (alive2_any _).mono ?_
  rintro e w1 ⟨rfl, b1⟩
  have x1 := ((BoxI.new w op d a b imm 23).al (.cells #[.int .i64 op, .int .i64 d', .int .i64 a', .int .i64 b', .int .i64 imm'] 23)).below b1
  have y1 := (BoxI.new (w.alloc (.cells #[.int .i64 op, .int .i64 d, .int .i64 a, .int .i64 b, .int .i64 imm] 23)) op d' a' b' imm' 23).below b1
  rw [show (w.alloc (.cells #[.int .i64 op, .int .i64 d, .int .i64 a, .int .i64 b, .int .i64 imm] 23)).heap.size = w.heap.size + 1 by simp] at y1
  have B1 := below_tr (below_al (below_al (Below.refl _ _) _) _) b1
  obtain ⟨kx0, kx1, kx2, kx3, kx4⟩ := x1.ext
  obtain ⟨ky0, ky1, ky2, ky3, ky4⟩ := y1.ext
  have hE : Ext w1 w1 := Ext.refl w1
  clear b1 x1 y1
  go_wp2_with fail
  refine (Hr.out _).mono ?_
  rintro e w9 ⟨rfl, b9⟩
  have hE' := Ext.tr hE b9 (by exact ⟨rfl, rfl, rfl, rfl⟩)
  clear hE b9
  have hE := hE'
  clear hE'
  go_wp2_with fail
  refine (Hk.out _).mono ?_
  rintro e w8 ⟨rfl, b9⟩
  have hE' := Ext.tr hE b9 (by exact ⟨rfl, rfl, rfl, rfl⟩)
  clear hE b9
  have hE := hE'
  clear hE'
  go_wp2_with fail
  refine (He.out _).mono ?_
  rintro e w7 ⟨rfl, b9⟩
  have hE' := Ext.tr hE b9 (by exact ⟨rfl, rfl, rfl, rfl⟩)
  clear hE b9
  have hE := hE'
  clear hE'
  go_wp2_with fail
  refine (Hf.out _).mono ?_
  rintro e w6 ⟨rfl, b9⟩
  have hE' := Ext.tr hE b9 (by exact ⟨rfl, rfl, rfl, rfl⟩)
  clear hE b9
  have hE := hE'
  clear hE'
  go_wp2_with fail
  refine (Hd.out _).mono ?_
  rintro e9 w5 ⟨rfl, b9⟩
  have hE' := Ext.tr hE b9 (by exact ⟨rfl, rfl, rfl, rfl⟩)
  clear hE b9
  have hE := hE'
  clear hE'
  have hA : ∀ o, Ext w1 (w5.alloc o) := fun o => below_al hE o
  go_wp2
  go_ret
  exact ⟨rfl, below_al (below_tr B1 hE) _⟩

set_option maxHeartbeats 4000000 in
theorem isaBack_c2 (op d a b imm a' b' imm' : Int) (w : World) (e f : Int) (ne : (e == f) = false) (nx : (a == a') = false) (hr : rightB ⟨op, d, a, b, imm⟩ = true) (hk : rightB ⟨op, d, a', b', imm'⟩ = true) (he : encT ⟨op, d, a, b, imm⟩ = (e, true)) (hf : encT ⟨op, d, a', b', imm'⟩ = (f, true)) (hd : decT e = (⟨op, d, a, b, imm⟩, true)) (e0 : 0 ≤ e) (e1 : e < 4294967296) (q : (e / 67108864 == op) = true) :
    Calls Try.prog 4 #[.agg #[.int .i64 op, .int .i64 d, .int .i64 a, .int .i64 b, .int .i64 imm], .agg #[.int .i64 op, .int .i64 d, .int .i64 a', .int .i64 b', .int .i64 imm']] w fun e w' => e = .returned (.bool true) ∧ Below w.heap.size w w' := by
  have Hr := hid (fun w => refRight_any ⟨op, d, a, b, imm⟩ w)
  rw [hr] at Hr
  have Hk := hid (fun w => refRight_any ⟨op, d, a', b', imm'⟩ w)
  rw [hk] at Hk
  have He := hid (fun w => encode_any ⟨op, d, a, b, imm⟩ w)
  rw [he] at He
  have Hf := hid (fun w => encode_any ⟨op, d, a', b', imm'⟩ w)
  rw [hf] at Hf
  have Hd := hid (fun w => decode_any e e0 e1 w)
  rw [hd] at Hd
  simp only [Ins.val] at Hr Hk He Hf Hd
  clear hr hk he hf hd
  go_enter Try.func4, Try.ntmps4
  go_wp2_with fail
  refine (alive2_any _).mono ?_
  rintro e w1 ⟨rfl, b1⟩
  have x1 := ((BoxI.new w op d a b imm 23).al (.cells #[.int .i64 op, .int .i64 d, .int .i64 a', .int .i64 b', .int .i64 imm'] 23)).below b1
  have y1 := (BoxI.new (w.alloc (.cells #[.int .i64 op, .int .i64 d, .int .i64 a, .int .i64 b, .int .i64 imm] 23)) op d a' b' imm' 23).below b1
  rw [show (w.alloc (.cells #[.int .i64 op, .int .i64 d, .int .i64 a, .int .i64 b, .int .i64 imm] 23)).heap.size = w.heap.size + 1 by simp] at y1
  have B1 := below_tr (below_al (below_al (Below.refl _ _) _) _) b1
  obtain ⟨kx0, kx1, kx2, kx3, kx4⟩ := x1.ext
  obtain ⟨ky0, ky1, ky2, ky3, ky4⟩ := y1.ext
  have hE : Ext w1 w1 := Ext.refl w1
  clear b1 x1 y1
  go_wp2_with fail
  refine (Hr.out _).mono ?_
  rintro e w9 ⟨rfl, b9⟩
  have hE' := Ext.tr hE b9 (by exact ⟨rfl, rfl, rfl, rfl⟩)
  clear hE b9
  have hE := hE'
  clear hE'
  go_wp2_with fail
  refine (Hk.out _).mono ?_
  rintro e w8 ⟨rfl, b9⟩
  have hE' := Ext.tr hE b9 (by exact ⟨rfl, rfl, rfl, rfl⟩)
  clear hE b9
  have hE := hE'
  clear hE'
  go_wp2_with fail
  refine (He.out _).mono ?_
  rintro e w7 ⟨rfl, b9⟩
  have hE' := Ext.tr hE b9 (by exact ⟨rfl, rfl, rfl, rfl⟩)
  clear hE b9
  have hE := hE'
  clear hE'
  go_wp2_with fail
  refine (Hf.out _).mono ?_
  rintro e w6 ⟨rfl, b9⟩
  have hE' := Ext.tr hE b9 (by exact ⟨rfl, rfl, rfl, rfl⟩)
  clear hE b9
  have hE := hE'
  clear hE'
  go_wp2_with fail
  refine (Hd.out _).mono ?_
  rintro e9 w5 ⟨rfl, b9⟩
  have hE' := Ext.tr hE b9 (by exact ⟨rfl, rfl, rfl, rfl⟩)
  clear hE b9
  have hE := hE'
  clear hE'
  have hA : ∀ o, Ext w1 (w5.alloc o) := fun o => below_al hE o
  go_wp2
  go_ret
  exact ⟨rfl, below_al (below_tr B1 hE) _⟩

set_option maxHeartbeats 4000000 in
theorem isaBack_c3 (op d a b imm b' imm' : Int) (w : World) (e f : Int) (ne : (e == f) = false) (nx : (b == b') = false) (hr : rightB ⟨op, d, a, b, imm⟩ = true) (hk : rightB ⟨op, d, a, b', imm'⟩ = true) (he : encT ⟨op, d, a, b, imm⟩ = (e, true)) (hf : encT ⟨op, d, a, b', imm'⟩ = (f, true)) (hd : decT e = (⟨op, d, a, b, imm⟩, true)) (e0 : 0 ≤ e) (e1 : e < 4294967296) (q : (e / 67108864 == op) = true) :
    Calls Try.prog 4 #[.agg #[.int .i64 op, .int .i64 d, .int .i64 a, .int .i64 b, .int .i64 imm], .agg #[.int .i64 op, .int .i64 d, .int .i64 a, .int .i64 b', .int .i64 imm']] w fun e w' => e = .returned (.bool true) ∧ Below w.heap.size w w' := by
  have Hr := hid (fun w => refRight_any ⟨op, d, a, b, imm⟩ w)
  rw [hr] at Hr
  have Hk := hid (fun w => refRight_any ⟨op, d, a, b', imm'⟩ w)
  rw [hk] at Hk
  have He := hid (fun w => encode_any ⟨op, d, a, b, imm⟩ w)
  rw [he] at He
  have Hf := hid (fun w => encode_any ⟨op, d, a, b', imm'⟩ w)
  rw [hf] at Hf
  have Hd := hid (fun w => decode_any e e0 e1 w)
  rw [hd] at Hd
  simp only [Ins.val] at Hr Hk He Hf Hd
  clear hr hk he hf hd
  go_enter Try.func4, Try.ntmps4
  go_wp2_with fail
  refine (alive2_any _).mono ?_
  rintro e w1 ⟨rfl, b1⟩
  have x1 := ((BoxI.new w op d a b imm 23).al (.cells #[.int .i64 op, .int .i64 d, .int .i64 a, .int .i64 b', .int .i64 imm'] 23)).below b1
  have y1 := (BoxI.new (w.alloc (.cells #[.int .i64 op, .int .i64 d, .int .i64 a, .int .i64 b, .int .i64 imm] 23)) op d a b' imm' 23).below b1
  rw [show (w.alloc (.cells #[.int .i64 op, .int .i64 d, .int .i64 a, .int .i64 b, .int .i64 imm] 23)).heap.size = w.heap.size + 1 by simp] at y1
  have B1 := below_tr (below_al (below_al (Below.refl _ _) _) _) b1
  obtain ⟨kx0, kx1, kx2, kx3, kx4⟩ := x1.ext
  obtain ⟨ky0, ky1, ky2, ky3, ky4⟩ := y1.ext
  have hE : Ext w1 w1 := Ext.refl w1
  clear b1 x1 y1
  go_wp2_with fail
  refine (Hr.out _).mono ?_
  rintro e w9 ⟨rfl, b9⟩
  have hE' := Ext.tr hE b9 (by exact ⟨rfl, rfl, rfl, rfl⟩)
  clear hE b9
  have hE := hE'
  clear hE'
  go_wp2_with fail
  refine (Hk.out _).mono ?_
  rintro e w8 ⟨rfl, b9⟩
  have hE' := Ext.tr hE b9 (by exact ⟨rfl, rfl, rfl, rfl⟩)
  clear hE b9
  have hE := hE'
  clear hE'
  go_wp2_with fail
  refine (He.out _).mono ?_
  rintro e w7 ⟨rfl, b9⟩
  have hE' := Ext.tr hE b9 (by exact ⟨rfl, rfl, rfl, rfl⟩)
  clear hE b9
  have hE := hE'
  clear hE'
  go_wp2_with fail
  refine (Hf.out _).mono ?_
  rintro e w6 ⟨rfl, b9⟩
  have hE' := Ext.tr hE b9 (by exact ⟨rfl, rfl, rfl, rfl⟩)
  clear hE b9
  have hE := hE'
  clear hE'
  go_wp2_with fail
  refine (Hd.out _).mono ?_
  rintro e9 w5 ⟨rfl, b9⟩
  have hE' := Ext.tr hE b9 (by exact ⟨rfl, rfl, rfl, rfl⟩)
  clear hE b9
  have hE := hE'
  clear hE'
  have hA : ∀ o, Ext w1 (w5.alloc o) := fun o => below_al hE o
  go_wp2
  go_ret
  exact ⟨rfl, below_al (below_tr B1 hE) _⟩

set_option maxHeartbeats 4000000 in
theorem isaBack_c4 (op d a b imm imm' : Int) (w : World) (e f : Int) (ne : (e == f) = false) (nx : (imm == imm') = false) (hr : rightB ⟨op, d, a, b, imm⟩ = true) (hk : rightB ⟨op, d, a, b, imm'⟩ = true) (he : encT ⟨op, d, a, b, imm⟩ = (e, true)) (hf : encT ⟨op, d, a, b, imm'⟩ = (f, true)) (hd : decT e = (⟨op, d, a, b, imm⟩, true)) (e0 : 0 ≤ e) (e1 : e < 4294967296) (q : (e / 67108864 == op) = true) :
    Calls Try.prog 4 #[.agg #[.int .i64 op, .int .i64 d, .int .i64 a, .int .i64 b, .int .i64 imm], .agg #[.int .i64 op, .int .i64 d, .int .i64 a, .int .i64 b, .int .i64 imm']] w fun e w' => e = .returned (.bool true) ∧ Below w.heap.size w w' := by
  have Hr := hid (fun w => refRight_any ⟨op, d, a, b, imm⟩ w)
  rw [hr] at Hr
  have Hk := hid (fun w => refRight_any ⟨op, d, a, b, imm'⟩ w)
  rw [hk] at Hk
  have He := hid (fun w => encode_any ⟨op, d, a, b, imm⟩ w)
  rw [he] at He
  have Hf := hid (fun w => encode_any ⟨op, d, a, b, imm'⟩ w)
  rw [hf] at Hf
  have Hd := hid (fun w => decode_any e e0 e1 w)
  rw [hd] at Hd
  simp only [Ins.val] at Hr Hk He Hf Hd
  clear hr hk he hf hd
  go_enter Try.func4, Try.ntmps4
  go_wp2_with fail
  refine (alive2_any _).mono ?_
  rintro e w1 ⟨rfl, b1⟩
  have x1 := ((BoxI.new w op d a b imm 23).al (.cells #[.int .i64 op, .int .i64 d, .int .i64 a, .int .i64 b, .int .i64 imm'] 23)).below b1
  have y1 := (BoxI.new (w.alloc (.cells #[.int .i64 op, .int .i64 d, .int .i64 a, .int .i64 b, .int .i64 imm] 23)) op d a b imm' 23).below b1
  rw [show (w.alloc (.cells #[.int .i64 op, .int .i64 d, .int .i64 a, .int .i64 b, .int .i64 imm] 23)).heap.size = w.heap.size + 1 by simp] at y1
  have B1 := below_tr (below_al (below_al (Below.refl _ _) _) _) b1
  obtain ⟨kx0, kx1, kx2, kx3, kx4⟩ := x1.ext
  obtain ⟨ky0, ky1, ky2, ky3, ky4⟩ := y1.ext
  have hE : Ext w1 w1 := Ext.refl w1
  clear b1 x1 y1
  go_wp2_with fail
  refine (Hr.out _).mono ?_
  rintro e w9 ⟨rfl, b9⟩
  have hE' := Ext.tr hE b9 (by exact ⟨rfl, rfl, rfl, rfl⟩)
  clear hE b9
  have hE := hE'
  clear hE'
  go_wp2_with fail
  refine (Hk.out _).mono ?_
  rintro e w8 ⟨rfl, b9⟩
  have hE' := Ext.tr hE b9 (by exact ⟨rfl, rfl, rfl, rfl⟩)
  clear hE b9
  have hE := hE'
  clear hE'
  go_wp2_with fail
  refine (He.out _).mono ?_
  rintro e w7 ⟨rfl, b9⟩
  have hE' := Ext.tr hE b9 (by exact ⟨rfl, rfl, rfl, rfl⟩)
  clear hE b9
  have hE := hE'
  clear hE'
  go_wp2_with fail
  refine (Hf.out _).mono ?_
  rintro e w6 ⟨rfl, b9⟩
  have hE' := Ext.tr hE b9 (by exact ⟨rfl, rfl, rfl, rfl⟩)
  clear hE b9
  have hE := hE'
  clear hE'
  go_wp2_with fail
  refine (Hd.out _).mono ?_
  rintro e9 w5 ⟨rfl, b9⟩
  have hE' := Ext.tr hE b9 (by exact ⟨rfl, rfl, rfl, rfl⟩)
  clear hE b9
  have hE := hE'
  clear hE'
  have hA : ∀ o, Ext w1 (w5.alloc o) := fun o => below_al hE o
  go_wp2
  go_ret
  exact ⟨rfl, below_al (below_tr B1 hE) _⟩

set_option maxHeartbeats 4000000 in
theorem isaBack_c5 (op d a b imm : Int) (w : World) (e : Int) (hr : rightB ⟨op, d, a, b, imm⟩ = true) (hk : rightB ⟨op, d, a, b, imm⟩ = true) (he : encT ⟨op, d, a, b, imm⟩ = (e, true)) (hf : encT ⟨op, d, a, b, imm⟩ = (e, true)) (hd : decT e = (⟨op, d, a, b, imm⟩, true)) (e0 : 0 ≤ e) (e1 : e < 4294967296) (q : (e / 67108864 == op) = true) :
    Calls Try.prog 4 #[.agg #[.int .i64 op, .int .i64 d, .int .i64 a, .int .i64 b, .int .i64 imm], .agg #[.int .i64 op, .int .i64 d, .int .i64 a, .int .i64 b, .int .i64 imm]] w fun e w' => e = .returned (.bool true) ∧ Below w.heap.size w w' := by
  have Hr := hid (fun w => refRight_any ⟨op, d, a, b, imm⟩ w)
  rw [hr] at Hr
  have Hk := hid (fun w => refRight_any ⟨op, d, a, b, imm⟩ w)
  rw [hk] at Hk
  have He := hid (fun w => encode_any ⟨op, d, a, b, imm⟩ w)
  rw [he] at He
  have Hf := hid (fun w => encode_any ⟨op, d, a, b, imm⟩ w)
  rw [hf] at Hf
  have Hd := hid (fun w => decode_any e e0 e1 w)
  rw [hd] at Hd
  simp only [Ins.val] at Hr Hk He Hf Hd
  clear hr hk he hf hd
  go_enter Try.func4, Try.ntmps4
  go_wp2_with fail
  refine (alive2_any _).mono ?_
  rintro e w1 ⟨rfl, b1⟩
  have x1 := ((BoxI.new w op d a b imm 23).al (.cells #[.int .i64 op, .int .i64 d, .int .i64 a, .int .i64 b, .int .i64 imm] 23)).below b1
  have y1 := (BoxI.new (w.alloc (.cells #[.int .i64 op, .int .i64 d, .int .i64 a, .int .i64 b, .int .i64 imm] 23)) op d a b imm 23).below b1
  rw [show (w.alloc (.cells #[.int .i64 op, .int .i64 d, .int .i64 a, .int .i64 b, .int .i64 imm] 23)).heap.size = w.heap.size + 1 by simp] at y1
  have B1 := below_tr (below_al (below_al (Below.refl _ _) _) _) b1
  obtain ⟨kx0, kx1, kx2, kx3, kx4⟩ := x1.ext
  obtain ⟨ky0, ky1, ky2, ky3, ky4⟩ := y1.ext
  have hE : Ext w1 w1 := Ext.refl w1
  clear b1 x1 y1
  go_wp2_with fail
  refine (Hr.out _).mono ?_
  rintro e w9 ⟨rfl, b9⟩
  have hE' := Ext.tr hE b9 (by exact ⟨rfl, rfl, rfl, rfl⟩)
  clear hE b9
  have hE := hE'
  clear hE'
  go_wp2_with fail
  refine (Hk.out _).mono ?_
  rintro e w8 ⟨rfl, b9⟩
  have hE' := Ext.tr hE b9 (by exact ⟨rfl, rfl, rfl, rfl⟩)
  clear hE b9
  have hE := hE'
  clear hE'
  go_wp2_with fail
  refine (He.out _).mono ?_
  rintro e w7 ⟨rfl, b9⟩
  have hE' := Ext.tr hE b9 (by exact ⟨rfl, rfl, rfl, rfl⟩)
  clear hE b9
  have hE := hE'
  clear hE'
  go_wp2_with fail
  refine (Hf.out _).mono ?_
  rintro e w6 ⟨rfl, b9⟩
  have hE' := Ext.tr hE b9 (by exact ⟨rfl, rfl, rfl, rfl⟩)
  clear hE b9
  have hE := hE'
  clear hE'
  go_wp2_with fail
  refine (Hd.out _).mono ?_
  rintro e9 w5 ⟨rfl, b9⟩
  have hE' := Ext.tr hE b9 (by exact ⟨rfl, rfl, rfl, rfl⟩)
  clear hE b9
  have hE := hE'
  clear hE'
  have hA : ∀ o, Ext w1 (w5.alloc o) := fun o => below_al hE o
  go_wp2
  go_ret
  exact ⟨rfl, below_al (below_tr B1 hE) _⟩

theorem isaBack_any (i k : Ins) (w : World) :
    Calls Try.prog 4 #[i.val, k.val] w fun e w' => e = .returned (.bool true) ∧ Below w.heap.size w w' := by
  obtain ⟨op, d, a, b, imm⟩ := i
  obtain ⟨op', d', a', b', imm'⟩ := k
  cases hr : rightB ⟨op, d, a, b, imm⟩ with
  | false => exact isaBack_n1 op d a b imm op' d' a' b' imm' w hr
  | true =>
  cases hk : rightB ⟨op', d', a', b', imm'⟩ with
  | false => exact isaBack_n2 op d a b imm op' d' a' b' imm' w hr hk
  | true =>
  have hg := enc_range _ (right_fit hr)
  have hd := decT_enc hr
  have he := encT_right hr
  have hf := encT_right hk
  have hq : (encW ⟨op, d, a, b, imm⟩ / 67108864 == op) = true := by
    have := dec_enc _ (right_fit hr)
    unfold decI at this
    simp only [Ins.mk.injEq] at this
    rw [this.1]
    exact beq_self_eq_true _
  have ne : ⟨op, d, a, b, imm⟩ ≠ (⟨op', d', a', b', imm'⟩ : Ins) → (encW ⟨op, d, a, b, imm⟩ == encW ⟨op', d', a', b', imm'⟩) = false := fun h => by
    rw [beq_eq_false_iff_ne]
    exact fun h' => h (enc_inj hr hk h')
  by_cases n0 : op = op'
  · subst n0
    by_cases n1 : d = d'
    · subst n1
      by_cases n2 : a = a'
      · subst n2
        by_cases n3 : b = b'
        · subst n3
          by_cases n4 : imm = imm'
          · subst n4
            exact isaBack_c5 op d a b imm w _ hr hk he hf hd hg.1 hg.2 hq
          · exact isaBack_c4 op d a b imm imm' w _ _ (ne (by simp [n4])) (beq_eq_false_iff_ne.2 n4) hr hk he hf hd hg.1 hg.2 hq
        · exact isaBack_c3 op d a b imm b' imm' w _ _ (ne (by simp [n3])) (beq_eq_false_iff_ne.2 n3) hr hk he hf hd hg.1 hg.2 hq
      · exact isaBack_c2 op d a b imm a' b' imm' w _ _ (ne (by simp [n2])) (beq_eq_false_iff_ne.2 n2) hr hk he hf hd hg.1 hg.2 hq
    · exact isaBack_c1 op d a b imm d' a' b' imm' w _ _ (ne (by simp [n1])) (beq_eq_false_iff_ne.2 n1) hr hk he hf hd hg.1 hg.2 hq
  · exact isaBack_c0 op d a b imm op' d' a' b' imm' w _ _ (ne (by simp [n0])) (beq_eq_false_iff_ne.2 n0) hr hk he hf hd hg.1 hg.2 hq

end Go.Proofs.Ytegalldldcaocaa
