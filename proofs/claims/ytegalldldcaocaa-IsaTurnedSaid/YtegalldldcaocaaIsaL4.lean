/-
The law IsaTurned of chapter 2 answers true, whatever its arguments are.
-/
import Derived.Test.YtegalldldcaocaaIsaL2
namespace Go.Proofs.Ytegalldldcaocaa
open Go.RowKit

set_option maxHeartbeats 2000000 in
theorem isaTurned_no (op d a b imm bit : Int) (w : World) (hr : rightB ⟨op, d, a, b, imm⟩ = false) :
    Calls Try.prog 8 #[.agg #[.int .i64 op, .int .i64 d, .int .i64 a, .int .i64 b, .int .i64 imm], .int .i64 bit] w fun e w' => e = .returned (.bool true) ∧ Below w.heap.size w w' := by
  have He := hid (fun w => encode_any ⟨op, d, a, b, imm⟩ w)
  rw [encT_wrong hr] at He
  simp only [Ins.val] at He
  clear hr
  go_enter Try.func8, Try.ntmps8
  go_wp2_with fail
  refine (alive2_any _).mono ?_
  rintro e9 w1 ⟨rfl, b1⟩
  have x1 := (BoxI.new w op d a b imm 23).below b1
  have B1 := below_tr (below_al (Below.refl _ _) _) b1
  obtain ⟨kx0, kx1, kx2, kx3, kx4⟩ := x1.ext
  have hE : Ext w1 w1 := Ext.refl w1
  clear b1 x1
  go_wp2_with fail
  refine (He.out _).mono ?_
  rintro e9 w9 ⟨rfl, b9⟩
  have hE' := Ext.tr hE b9 (by exact ⟨rfl, rfl, rfl, rfl⟩)
  clear hE b9
  have hE := hE'
  clear hE'
  go_wp2
  go_ret
  exact ⟨rfl, below_tr B1 hE⟩

set_option maxHeartbeats 2000000 in
theorem isaTurned_lo (op d a b imm bit : Int) (w : World) (e : Int) (he : encT ⟨op, d, a, b, imm⟩ = (e, true)) (hb : bit < 0) :
    Calls Try.prog 8 #[.agg #[.int .i64 op, .int .i64 d, .int .i64 a, .int .i64 b, .int .i64 imm], .int .i64 bit] w fun e w' => e = .returned (.bool true) ∧ Below w.heap.size w w' := by
  have He := hid (fun w => encode_any ⟨op, d, a, b, imm⟩ w)
  rw [he] at He
  simp only [Ins.val] at He
  clear he
  go_enter Try.func8, Try.ntmps8
  go_wp2_with fail
  refine (alive2_any _).mono ?_
  rintro e9 w1 ⟨rfl, b1⟩
  have x1 := (BoxI.new w op d a b imm 23).below b1
  have B1 := below_tr (below_al (Below.refl _ _) _) b1
  obtain ⟨kx0, kx1, kx2, kx3, kx4⟩ := x1.ext
  have hE : Ext w1 w1 := Ext.refl w1
  clear b1 x1
  go_wp2_with fail
  refine (He.out _).mono ?_
  rintro e9 w9 ⟨rfl, b9⟩
  have hE' := Ext.tr hE b9 (by exact ⟨rfl, rfl, rfl, rfl⟩)
  clear hE b9
  have hE := hE'
  clear hE'
  go_wp2
  go_ret
  exact ⟨rfl, below_tr B1 hE⟩

set_option maxHeartbeats 2000000 in
theorem isaTurned_hi (op d a b imm bit : Int) (w : World) (e : Int) (he : encT ⟨op, d, a, b, imm⟩ = (e, true)) (hb : 31 < bit) :
    Calls Try.prog 8 #[.agg #[.int .i64 op, .int .i64 d, .int .i64 a, .int .i64 b, .int .i64 imm], .int .i64 bit] w fun e w' => e = .returned (.bool true) ∧ Below w.heap.size w w' := by
  have He := hid (fun w => encode_any ⟨op, d, a, b, imm⟩ w)
  rw [he] at He
  simp only [Ins.val] at He
  clear he
  go_enter Try.func8, Try.ntmps8
  go_wp2_with fail
  refine (alive2_any _).mono ?_
  rintro e9 w1 ⟨rfl, b1⟩
  have x1 := (BoxI.new w op d a b imm 23).below b1
  have B1 := below_tr (below_al (Below.refl _ _) _) b1
  obtain ⟨kx0, kx1, kx2, kx3, kx4⟩ := x1.ext
  have hE : Ext w1 w1 := Ext.refl w1
  clear b1 x1
  go_wp2_with fail
  refine (He.out _).mono ?_
  rintro e9 w9 ⟨rfl, b9⟩
  have hE' := Ext.tr hE b9 (by exact ⟨rfl, rfl, rfl, rfl⟩)
  clear hE b9
  have hE := hE'
  clear hE'
  go_wp2
  go_ret
  exact ⟨rfl, below_tr B1 hE⟩

theorem xor_turn (e : Int) (k : Nat) (h0 : 0 ≤ e) (h1 : e < 4294967296) (hk : k ≤ 31) : 0 ≤ bits BinOp.xor .u32 e (2 ^ k % 4294967296) ∧ bits BinOp.xor .u32 e (2 ^ k % 4294967296) < 4294967296 ∧ bits BinOp.xor .u32 e (2 ^ k % 4294967296) ≠ e := by
  have hp : (2 : Nat) ^ k < 4294967296 := Nat.lt_of_le_of_lt (Nat.pow_le_pow_right (by omega) hk) (by omega)
  have hpos : 0 < (2 : Nat) ^ k := Nat.pow_pos (by omega)
  have e2 : (2 : Int) ^ k % 4294967296 = ((2 ^ k : Nat) : Int) := by
    have : (2 : Int) ^ k = ((2 ^ k : Nat) : Int) := by push_cast; rfl
    rw [this]
    omega
  obtain ⟨a, rfl⟩ := Int.eq_ofNat_of_zero_le h0
  rw [e2, u32_xor_nat a (2 ^ k) (by omega) hp]
  have hx : a ^^^ 2 ^ k < 2 ^ 32 := Nat.xor_lt_two_pow (by omega) (by omega)
  refine ⟨by omega, by omega, fun h => ?_⟩
  have h' : a ^^^ 2 ^ k = a := by omega
  have : 2 ^ k = 0 := by
    calc 2 ^ k = (a ^^^ a) ^^^ 2 ^ k := by rw [Nat.xor_self, Nat.zero_xor]
      _ = a ^^^ (a ^^^ 2 ^ k) := Nat.xor_assoc _ _ _
      _ = a ^^^ a := by rw [h']
      _ = 0 := Nat.xor_self _
  omega

set_option maxHeartbeats 2000000 in
theorem isaTurned_f (op d a b imm bit : Int) (w : World) (e : Int) (he : encT ⟨op, d, a, b, imm⟩ = (e, true)) (h0 : 0 ≤ bit) (h1 : bit ≤ 31) (f : Int) (f0 : 0 ≤ f) (f1 : f < 4294967296) (hf : bits BinOp.xor IntKind.u32 e (2 ^ bit.toNat % 4294967296) = f) (hd : decT f = (zeroI, false)) :
    Calls Try.prog 8 #[.agg #[.int .i64 op, .int .i64 d, .int .i64 a, .int .i64 b, .int .i64 imm], .int .i64 bit] w fun e w' => e = .returned (.bool true) ∧ Below w.heap.size w w' := by
  have He := hid (fun w => encode_any ⟨op, d, a, b, imm⟩ w)
  rw [he] at He
  simp only [Ins.val] at He
  clear he
  have Hd := hid (fun w => decode_any f f0 f1 w)
  rw [hd] at Hd
  simp only [Ins.val, zeroI] at Hd
  clear hd
  go_enter Try.func8, Try.ntmps8
  go_wp2_with fail
  refine (alive2_any _).mono ?_
  rintro e9 w1 ⟨rfl, b1⟩
  have x1 := (BoxI.new w op d a b imm 23).below b1
  have B1 := below_tr (below_al (Below.refl _ _) _) b1
  obtain ⟨kx0, kx1, kx2, kx3, kx4⟩ := x1.ext
  have hE : Ext w1 w1 := Ext.refl w1
  clear b1 x1
  go_wp2_with fail
  refine (He.out _).mono ?_
  rintro e9 w9 ⟨rfl, b9⟩
  have hE' := Ext.tr hE b9 (by exact ⟨rfl, rfl, rfl, rfl⟩)
  clear hE b9
  have hE := hE'
  clear hE'
  go_wp2_with fail
  refine (Hd.out _).mono ?_
  rintro e9 w5 ⟨rfl, b9⟩
  have hE' := Ext.tr hE b9 (by exact ⟨rfl, rfl, rfl, rfl⟩)
  clear hE b9
  have hE := hE'
  clear hE'
  have hA : ∀ o, Ext w1 (w5.alloc o) := fun o => below_al hE o
  go_wp2
  go_ret
  exact ⟨rfl, below_al (below_tr B1 hE) _⟩

set_option maxHeartbeats 2000000 in
theorem isaTurned_t0 (op d a b imm bit : Int) (w : World) (e : Int) (he : encT ⟨op, d, a, b, imm⟩ = (e, true)) (h0 : 0 ≤ bit) (h1 : bit ≤ 31) (f : Int) (f0 : 0 ≤ f) (f1 : f < 4294967296) (hf : bits BinOp.xor IntKind.u32 e (2 ^ bit.toNat % 4294967296) = f) (op' d' a' b' imm' : Int) (nx : (op' == op) = false) (hr : rightB ⟨op', d', a', b', imm'⟩ = true) (hd : decT f = (⟨op', d', a', b', imm'⟩, true)) :
    Calls Try.prog 8 #[.agg #[.int .i64 op, .int .i64 d, .int .i64 a, .int .i64 b, .int .i64 imm], .int .i64 bit] w fun e w' => e = .returned (.bool true) ∧ Below w.heap.size w w' := by
  have He := hid (fun w => encode_any ⟨op, d, a, b, imm⟩ w)
  rw [he] at He
  simp only [Ins.val] at He
  clear he
  have Hd := hid (fun w => decode_any f f0 f1 w)
  rw [hd] at Hd
  simp only [Ins.val, zeroI] at Hd
  clear hd
  have Hr := hid (fun w => right_any ⟨op', d', a', b', imm'⟩ w)
  rw [hr] at Hr
  simp only [Ins.val] at Hr
  clear hr
  go_enter Try.func8, Try.ntmps8
  go_wp2_with fail
  refine (alive2_any _).mono ?_
  rintro e9 w1 ⟨rfl, b1⟩
  have x1 := (BoxI.new w op d a b imm 23).below b1
  have B1 := below_tr (below_al (Below.refl _ _) _) b1
  obtain ⟨kx0, kx1, kx2, kx3, kx4⟩ := x1.ext
  have hE : Ext w1 w1 := Ext.refl w1
  clear b1 x1
  go_wp2_with fail
  refine (He.out _).mono ?_
  rintro e9 w9 ⟨rfl, b9⟩
  have hE' := Ext.tr hE b9 (by exact ⟨rfl, rfl, rfl, rfl⟩)
  clear hE b9
  have hE := hE'
  clear hE'
  go_wp2_with fail
  refine (Hd.out _).mono ?_
  rintro e9 w5 ⟨rfl, b9⟩
  have hE' := Ext.tr hE b9 (by exact ⟨rfl, rfl, rfl, rfl⟩)
  clear hE b9
  have hE := hE'
  clear hE'
  have hA : ∀ o, Ext w1 (w5.alloc o) := fun o => below_al hE o
  have z5 := BoxI.new w5 op' d' a' b' imm' 23
  go_wp2_with fail
  refine (Hr.out _).mono ?_
  rintro e9 w8 ⟨rfl, b9⟩
  go_wp2
  go_ret
  exact ⟨rfl, below_tr (below_al (below_tr B1 hE) _) b9⟩

set_option maxHeartbeats 2000000 in
theorem isaTurned_t1 (op d a b imm bit : Int) (w : World) (e : Int) (he : encT ⟨op, d, a, b, imm⟩ = (e, true)) (h0 : 0 ≤ bit) (h1 : bit ≤ 31) (f : Int) (f0 : 0 ≤ f) (f1 : f < 4294967296) (hf : bits BinOp.xor IntKind.u32 e (2 ^ bit.toNat % 4294967296) = f) (d' a' b' imm' : Int) (nx : (d' == d) = false) (hr : rightB ⟨op, d', a', b', imm'⟩ = true) (hd : decT f = (⟨op, d', a', b', imm'⟩, true)) :
    Calls Try.prog 8 #[.agg #[.int .i64 op, .int .i64 d, .int .i64 a, .int .i64 b, .int .i64 imm], .int .i64 bit] w fun e w' => e = .returned (.bool true) ∧ Below w.heap.size w w' := by
  have He := hid (fun w => encode_any ⟨op, d, a, b, imm⟩ w)
  rw [he] at He
  simp only [Ins.val] at He
  clear he
  have Hd := hid (fun w => decode_any f f0 f1 w)
  rw [hd] at Hd
  simp only [Ins.val, zeroI] at Hd
  clear hd
  have Hr := hid (fun w => right_any ⟨op, d', a', b', imm'⟩ w)
  rw [hr] at Hr
  simp only [Ins.val] at Hr
  clear hr
  go_enter Try.func8, Try.ntmps8
  go_wp2_with fail
  refine (alive2_any _).mono ?_
  rintro e9 w1 ⟨rfl, b1⟩
  have x1 := (BoxI.new w op d a b imm 23).below b1
  have B1 := below_tr (below_al (Below.refl _ _) _) b1
  obtain ⟨kx0, kx1, kx2, kx3, kx4⟩ := x1.ext
  have hE : Ext w1 w1 := Ext.refl w1
  clear b1 x1
  go_wp2_with fail
  refine (He.out _).mono ?_
  rintro e9 w9 ⟨rfl, b9⟩
  have hE' := Ext.tr hE b9 (by exact ⟨rfl, rfl, rfl, rfl⟩)
  clear hE b9
  have hE := hE'
  clear hE'
  go_wp2_with fail
  refine (Hd.out _).mono ?_
  rintro e9 w5 ⟨rfl, b9⟩
  have hE' := Ext.tr hE b9 (by exact ⟨rfl, rfl, rfl, rfl⟩)
  clear hE b9
  have hE := hE'
  clear hE'
  have hA : ∀ o, Ext w1 (w5.alloc o) := fun o => below_al hE o
  have z5 := BoxI.new w5 op d' a' b' imm' 23
  go_wp2_with fail
  refine (Hr.out _).mono ?_
  rintro e9 w8 ⟨rfl, b9⟩
  go_wp2
  go_ret
  exact ⟨rfl, below_tr (below_al (below_tr B1 hE) _) b9⟩

set_option maxHeartbeats 2000000 in
theorem isaTurned_t2 (op d a b imm bit : Int) (w : World) (e : Int) (he : encT ⟨op, d, a, b, imm⟩ = (e, true)) (h0 : 0 ≤ bit) (h1 : bit ≤ 31) (f : Int) (f0 : 0 ≤ f) (f1 : f < 4294967296) (hf : bits BinOp.xor IntKind.u32 e (2 ^ bit.toNat % 4294967296) = f) (a' b' imm' : Int) (nx : (a' == a) = false) (hr : rightB ⟨op, d, a', b', imm'⟩ = true) (hd : decT f = (⟨op, d, a', b', imm'⟩, true)) :
    Calls Try.prog 8 #[.agg #[.int .i64 op, .int .i64 d, .int .i64 a, .int .i64 b, .int .i64 imm], .int .i64 bit] w fun e w' => e = .returned (.bool true) ∧ Below w.heap.size w w' := by
  have He := hid (fun w => encode_any ⟨op, d, a, b, imm⟩ w)
  rw [he] at He
  simp only [Ins.val] at He
  clear he
  have Hd := hid (fun w => decode_any f f0 f1 w)
  rw [hd] at Hd
  simp only [Ins.val, zeroI] at Hd
  clear hd
  have Hr := hid (fun w => right_any ⟨op, d, a', b', imm'⟩ w)
  rw [hr] at Hr
  simp only [Ins.val] at Hr
  clear hr
  go_enter Try.func8, Try.ntmps8
  go_wp2_with fail
  refine (alive2_any _).mono ?_
  rintro e9 w1 ⟨rfl, b1⟩
  have x1 := (BoxI.new w op d a b imm 23).below b1
  have B1 := below_tr (below_al (Below.refl _ _) _) b1
  obtain ⟨kx0, kx1, kx2, kx3, kx4⟩ := x1.ext
  have hE : Ext w1 w1 := Ext.refl w1
  clear b1 x1
  go_wp2_with fail
  refine (He.out _).mono ?_
  rintro e9 w9 ⟨rfl, b9⟩
  have hE' := Ext.tr hE b9 (by exact ⟨rfl, rfl, rfl, rfl⟩)
  clear hE b9
  have hE := hE'
  clear hE'
  go_wp2_with fail
  refine (Hd.out _).mono ?_
  rintro e9 w5 ⟨rfl, b9⟩
  have hE' := Ext.tr hE b9 (by exact ⟨rfl, rfl, rfl, rfl⟩)
  clear hE b9
  have hE := hE'
  clear hE'
  have hA : ∀ o, Ext w1 (w5.alloc o) := fun o => below_al hE o
  have z5 := BoxI.new w5 op d a' b' imm' 23
  go_wp2_with fail
  refine (Hr.out _).mono ?_
  rintro e9 w8 ⟨rfl, b9⟩
  go_wp2
  go_ret
  exact ⟨rfl, below_tr (below_al (below_tr B1 hE) _) b9⟩

set_option maxHeartbeats 2000000 in
theorem isaTurned_t3 (op d a b imm bit : Int) (w : World) (e : Int) (he : encT ⟨op, d, a, b, imm⟩ = (e, true)) (h0 : 0 ≤ bit) (h1 : bit ≤ 31) (f : Int) (f0 : 0 ≤ f) (f1 : f < 4294967296) (hf : bits BinOp.xor IntKind.u32 e (2 ^ bit.toNat % 4294967296) = f) (b' imm' : Int) (nx : (b' == b) = false) (hr : rightB ⟨op, d, a, b', imm'⟩ = true) (hd : decT f = (⟨op, d, a, b', imm'⟩, true)) :
    Calls Try.prog 8 #[.agg #[.int .i64 op, .int .i64 d, .int .i64 a, .int .i64 b, .int .i64 imm], .int .i64 bit] w fun e w' => e = .returned (.bool true) ∧ Below w.heap.size w w' := by
  have He := hid (fun w => encode_any ⟨op, d, a, b, imm⟩ w)
  rw [he] at He
  simp only [Ins.val] at He
  clear he
  have Hd := hid (fun w => decode_any f f0 f1 w)
  rw [hd] at Hd
  simp only [Ins.val, zeroI] at Hd
  clear hd
  have Hr := hid (fun w => right_any ⟨op, d, a, b', imm'⟩ w)
  rw [hr] at Hr
  simp only [Ins.val] at Hr
  clear hr
  go_enter Try.func8, Try.ntmps8
  go_wp2_with fail
  refine (alive2_any _).mono ?_
  rintro e9 w1 ⟨rfl, b1⟩
  have x1 := (BoxI.new w op d a b imm 23).below b1
  have B1 := below_tr (below_al (Below.refl _ _) _) b1
  obtain ⟨kx0, kx1, kx2, kx3, kx4⟩ := x1.ext
  have hE : Ext w1 w1 := Ext.refl w1
  clear b1 x1
  go_wp2_with fail
  refine (He.out _).mono ?_
  rintro e9 w9 ⟨rfl, b9⟩
  have hE' := Ext.tr hE b9 (by exact ⟨rfl, rfl, rfl, rfl⟩)
  clear hE b9
  have hE := hE'
  clear hE'
  go_wp2_with fail
  refine (Hd.out _).mono ?_
  rintro e9 w5 ⟨rfl, b9⟩
  have hE' := Ext.tr hE b9 (by exact ⟨rfl, rfl, rfl, rfl⟩)
  clear hE b9
  have hE := hE'
  clear hE'
  have hA : ∀ o, Ext w1 (w5.alloc o) := fun o => below_al hE o
  have z5 := BoxI.new w5 op d a b' imm' 23
  go_wp2_with fail
  refine (Hr.out _).mono ?_
  rintro e9 w8 ⟨rfl, b9⟩
  go_wp2
  go_ret
  exact ⟨rfl, below_tr (below_al (below_tr B1 hE) _) b9⟩

set_option maxHeartbeats 2000000 in
theorem isaTurned_t4 (op d a b imm bit : Int) (w : World) (e : Int) (he : encT ⟨op, d, a, b, imm⟩ = (e, true)) (h0 : 0 ≤ bit) (h1 : bit ≤ 31) (f : Int) (f0 : 0 ≤ f) (f1 : f < 4294967296) (hf : bits BinOp.xor IntKind.u32 e (2 ^ bit.toNat % 4294967296) = f) (imm' : Int) (nx : (imm' == imm) = false) (hr : rightB ⟨op, d, a, b, imm'⟩ = true) (hd : decT f = (⟨op, d, a, b, imm'⟩, true)) :
    Calls Try.prog 8 #[.agg #[.int .i64 op, .int .i64 d, .int .i64 a, .int .i64 b, .int .i64 imm], .int .i64 bit] w fun e w' => e = .returned (.bool true) ∧ Below w.heap.size w w' := by
  have He := hid (fun w => encode_any ⟨op, d, a, b, imm⟩ w)
  rw [he] at He
  simp only [Ins.val] at He
  clear he
  have Hd := hid (fun w => decode_any f f0 f1 w)
  rw [hd] at Hd
  simp only [Ins.val, zeroI] at Hd
  clear hd
  have Hr := hid (fun w => right_any ⟨op, d, a, b, imm'⟩ w)
  rw [hr] at Hr
  simp only [Ins.val] at Hr
  clear hr
  go_enter Try.func8, Try.ntmps8
  go_wp2_with fail
  refine (alive2_any _).mono ?_
  rintro e9 w1 ⟨rfl, b1⟩
  have x1 := (BoxI.new w op d a b imm 23).below b1
  have B1 := below_tr (below_al (Below.refl _ _) _) b1
  obtain ⟨kx0, kx1, kx2, kx3, kx4⟩ := x1.ext
  have hE : Ext w1 w1 := Ext.refl w1
  clear b1 x1
  go_wp2_with fail
  refine (He.out _).mono ?_
  rintro e9 w9 ⟨rfl, b9⟩
  have hE' := Ext.tr hE b9 (by exact ⟨rfl, rfl, rfl, rfl⟩)
  clear hE b9
  have hE := hE'
  clear hE'
  go_wp2_with fail
  refine (Hd.out _).mono ?_
  rintro e9 w5 ⟨rfl, b9⟩
  have hE' := Ext.tr hE b9 (by exact ⟨rfl, rfl, rfl, rfl⟩)
  clear hE b9
  have hE := hE'
  clear hE'
  have hA : ∀ o, Ext w1 (w5.alloc o) := fun o => below_al hE o
  have z5 := BoxI.new w5 op d a b imm' 23
  go_wp2_with fail
  refine (Hr.out _).mono ?_
  rintro e9 w8 ⟨rfl, b9⟩
  go_wp2
  go_ret
  exact ⟨rfl, below_tr (below_al (below_tr B1 hE) _) b9⟩

theorem isaTurned_any (i : Ins) (bit : Int) (w : World) :
    Calls Try.prog 8 #[i.val, .int .i64 bit] w fun e w' => e = .returned (.bool true) ∧ Below w.heap.size w w' := by
  obtain ⟨op, d, a, b, imm⟩ := i
  cases hr : rightB ⟨op, d, a, b, imm⟩ with
  | false => exact isaTurned_no op d a b imm bit w hr
  | true =>
  have he := encT_right hr
  have hg := enc_range _ (right_fit hr)
  by_cases h0 : bit < 0
  · exact isaTurned_lo op d a b imm bit w _ he h0
  by_cases h1 : 31 < bit
  · exact isaTurned_hi op d a b imm bit w _ he h1
  obtain ⟨x0, x1, x2⟩ := xor_turn (encW ⟨op, d, a, b, imm⟩) bit.toNat hg.1 hg.2 (by omega)
  obtain ⟨f, hf⟩ : ∃ f, bits BinOp.xor IntKind.u32 (encW ⟨op, d, a, b, imm⟩) (2 ^ bit.toNat % 4294967296) = f := ⟨_, rfl⟩
  rw [hf] at x0 x1 x2
  cases hj : rightB (decI f) with
  | false => exact isaTurned_f op d a b imm bit w _ he (by omega) (by omega) f x0 x1 hf (by unfold decT; rw [hj]; rfl)
  | true =>
  have hd : decT f = (decI f, true) := by unfold decT; rw [if_pos hj]
  have hne : decI f ≠ ⟨op, d, a, b, imm⟩ := fun h => x2 (by rw [← enc_dec f x0 x1, h])
  obtain ⟨⟨op', d', a', b', imm'⟩, hi⟩ : ∃ j, decI f = j := ⟨_, rfl⟩
  rw [hi] at hj hd hne
  by_cases n0 : op' = op
  · subst n0
    by_cases n1 : d' = d
    · subst n1
      by_cases n2 : a' = a
      · subst n2
        by_cases n3 : b' = b
        · subst n3
          by_cases n4 : imm' = imm
          · subst n4
            exact absurd rfl hne
          · exact isaTurned_t4 op' d' a' b' imm bit w _ he (by omega) (by omega) f x0 x1 hf imm' (beq_eq_false_iff_ne.2 n4) hj hd
        · exact isaTurned_t3 op' d' a' b imm bit w _ he (by omega) (by omega) f x0 x1 hf b' imm' (beq_eq_false_iff_ne.2 n3) hj hd
      · exact isaTurned_t2 op' d' a b imm bit w _ he (by omega) (by omega) f x0 x1 hf a' b' imm' (beq_eq_false_iff_ne.2 n2) hj hd
    · exact isaTurned_t1 op' d a b imm bit w _ he (by omega) (by omega) f x0 x1 hf d' a' b' imm' (beq_eq_false_iff_ne.2 n1) hj hd
  · exact isaTurned_t0 op d a b imm bit w _ he (by omega) (by omega) f x0 x1 hf op' d' a' b' imm' (beq_eq_false_iff_ne.2 n0) hj hd

end Go.Proofs.Ytegalldldcaocaa
