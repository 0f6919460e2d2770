/-
Package isa's Decode, Reads, Writes and their references: plain functions of a word, or of five numbers, for any arguments.
-/
import Derived.Test.YtegalldldcaocaaIsaB
namespace Go.Proofs.Ytegalldldcaocaa
open Go.RowKit

def immOf (w : Int) : Int := if 8192 ≤ w % 16384 then w % 16384 - 16384 else w % 16384
/-- the parts of a word -/
def decI (w : Int) : Ins := ⟨w / 67108864, w / 4194304 % 16, w / 262144 % 16, w / 16384 % 16, immOf w⟩
def zeroI : Ins := ⟨0, 0, 0, 0, 0⟩
def decT (w : Int) : Ins × Bool := if rightB (decI w) then (decI w, true) else (zeroI, false)

theorem enc_dec (w : Int) (h0 : 0 ≤ w) (h1 : w < 4294967296) : encW (decI w) = w := by
  unfold encW decI immOf
  simp only
  split <;> omega
theorem dec_enc (i : Ins) (h : Fit i) : decI (encW i) = i := by
  obtain ⟨o0, o1, d0, d1, a0, a1, b0, b1, m0, m1⟩ := h
  obtain ⟨op, d, a, b, imm⟩ := i
  simp only at o0 o1 d0 d1 a0 a1 b0 b1 m0 m1
  unfold decI encW immOf
  simp only [Ins.mk.injEq]
  refine ⟨?_, ?_, ?_, ?_, ?_⟩
  · omega
  · omega
  · omega
  · omega
  · split <;> omega
theorem enc_range (i : Ins) (h : Fit i) : 0 ≤ encW i ∧ encW i < 4294967296 := by
  obtain ⟨o0, o1, d0, d1, a0, a1, b0, b1, m0, m1⟩ := h
  unfold encW
  omega

theorem ret_ins {i j : Ins} {x y : Bool} (h : i = j) (g : x = y) : Ending.returned (.tuple #[.agg #[.int .i64 i.op, .int .i64 i.d, .int .i64 i.a, .int .i64 i.b, .int .i64 i.imm], .bool x]) = .returned (.tuple #[j.val, .bool y]) := by rw [h, g]; rfl

set_option maxHeartbeats 2000000 in
theorem decode_core (x o m d a b : Int) (h0 : 0 ≤ x) (h1 : x < 4294967296) (m0 : 0 ≤ m) (m1 : m < 16384) (d0 : 0 ≤ d) (d1 : d < 16) (a0 : 0 ≤ a) (a1 : a < 16) (b0 : 0 ≤ b) (b1 : b < 16) (r : Bool)
    (e0 : x / 67108864 = o) (e1 : bits BinOp.and IntKind.u32 x 16383 = m) (e2 : bits BinOp.and IntKind.u32 (x / 4194304) 15 = d) (e3 : bits BinOp.and IntKind.u32 (x / 262144) 15 = a) (e4 : bits BinOp.and IntKind.u32 (x / 16384) 15 = b) (c0 : 0 ≤ o) (c1 : o < 64)
    (imm : Int) (hi : imm = if 8192 ≤ m then m - 16384 else m) (hr : rightB ⟨o, d, a, b, imm⟩ = r) (w : World) :
    Calls Try.prog 13 #[.int .u32 x] w fun e w' => e = .returned (.tuple #[(if r then (⟨o, d, a, b, imm⟩ : Ins) else zeroI).val, .bool r]) ∧ Below w.heap.size w w' := by
  by_cases c : 8192 ≤ m
  · rw [if_pos c] at hi
    subst hi
    have hr' := fun w => right_any ⟨o, d, a, b, m - 16384⟩ w
    rw [hr] at hr'
    unfold Ins.val at hr'
    have HR := hid hr'
    clear hr' hr
    cases r
    · go_enter Try.func13, Try.ntmps13
      go_wp2_with (go_at_call 17; refine (HR.out _).mono ?_; rintro e w1 ⟨rfl, hb⟩; obtain ⟨hc, hf⟩ := bcell hb; have hz : w.heap.size + 2 ≤ w1.heap.size := by have := hb.size; simp at this; omega)
      have k0 : w1.cell? ⟨w.heap.size, 0, none⟩ = some (.int .i64 0) := by rw [hc _ _ (by simp; omega)]; simp [go_sem]
      have k1 : w1.cell? ⟨w.heap.size, 1, none⟩ = some (.int .i64 0) := by rw [hc _ _ (by simp; omega)]; simp [go_sem]
      have k2 : w1.cell? ⟨w.heap.size, 2, none⟩ = some (.int .i64 0) := by rw [hc _ _ (by simp; omega)]; simp [go_sem]
      have k3 : w1.cell? ⟨w.heap.size, 3, none⟩ = some (.int .i64 0) := by rw [hc _ _ (by simp; omega)]; simp [go_sem]
      have k4 : w1.cell? ⟨w.heap.size, 4, none⟩ = some (.int .i64 0) := by rw [hc _ _ (by simp; omega)]; simp [go_sem]
      refine bodyPost_ret (v := .tuple #[.agg #[.int .i64 (0), .int .i64 (0), .int .i64 (0), .int .i64 (0), .int .i64 (0)], .bool false]) (by simp [results, Try.results13, go_sem, k0, k1, k2, k3, k4]) rfl ⟨rfl, ?_⟩
      have hb0 : Below w.heap.size w w1 := below_tr (below_al (below_al (Below.refl _ _) _) _) hb
      exact ((((hb0.setCell (by simp) _).setCell (by simp) _).setCell (by simp) _).setCell (by simp) _).setCell (by simp) _
    · go_enter Try.func13, Try.ntmps13
      go_wp2_with (go_at_call 17; refine (HR.out _).mono ?_; rintro e w1 ⟨rfl, hb⟩; obtain ⟨hc, hf⟩ := bcell hb; have hz : w.heap.size + 2 ≤ w1.heap.size := by have := hb.size; simp at this; omega)
      have k0 : w1.cell? ⟨w.heap.size, 0, none⟩ = some (.int .i64 0) := by rw [hc _ _ (by simp; omega)]; simp [go_sem]
      have k1 : w1.cell? ⟨w.heap.size, 1, none⟩ = some (.int .i64 0) := by rw [hc _ _ (by simp; omega)]; simp [go_sem]
      have k2 : w1.cell? ⟨w.heap.size, 2, none⟩ = some (.int .i64 0) := by rw [hc _ _ (by simp; omega)]; simp [go_sem]
      have k3 : w1.cell? ⟨w.heap.size, 3, none⟩ = some (.int .i64 0) := by rw [hc _ _ (by simp; omega)]; simp [go_sem]
      have k4 : w1.cell? ⟨w.heap.size, 4, none⟩ = some (.int .i64 0) := by rw [hc _ _ (by simp; omega)]; simp [go_sem]
      refine bodyPost_ret (v := .tuple #[.agg #[.int .i64 (o), .int .i64 (d), .int .i64 (a), .int .i64 (b), .int .i64 (m - 16384)], .bool true]) (by simp [results, Try.results13, go_sem, k0, k1, k2, k3, k4]) rfl ⟨rfl, ?_⟩
      have hb0 : Below w.heap.size w w1 := below_tr (below_al (below_al (Below.refl _ _) _) _) hb
      exact ((((hb0.setCell (by simp) _).setCell (by simp) _).setCell (by simp) _).setCell (by simp) _).setCell (by simp) _
  · rw [if_neg c] at hi
    subst hi
    have hr' := fun w => right_any ⟨o, d, a, b, imm⟩ w
    rw [hr] at hr'
    unfold Ins.val at hr'
    have HR := hid hr'
    clear hr' hr
    cases r
    · go_enter Try.func13, Try.ntmps13
      go_wp2_with (go_at_call 17; refine (HR.out _).mono ?_; rintro e w1 ⟨rfl, hb⟩; obtain ⟨hc, hf⟩ := bcell hb; have hz : w.heap.size + 2 ≤ w1.heap.size := by have := hb.size; simp at this; omega)
      have k0 : w1.cell? ⟨w.heap.size, 0, none⟩ = some (.int .i64 0) := by rw [hc _ _ (by simp; omega)]; simp [go_sem]
      have k1 : w1.cell? ⟨w.heap.size, 1, none⟩ = some (.int .i64 0) := by rw [hc _ _ (by simp; omega)]; simp [go_sem]
      have k2 : w1.cell? ⟨w.heap.size, 2, none⟩ = some (.int .i64 0) := by rw [hc _ _ (by simp; omega)]; simp [go_sem]
      have k3 : w1.cell? ⟨w.heap.size, 3, none⟩ = some (.int .i64 0) := by rw [hc _ _ (by simp; omega)]; simp [go_sem]
      have k4 : w1.cell? ⟨w.heap.size, 4, none⟩ = some (.int .i64 0) := by rw [hc _ _ (by simp; omega)]; simp [go_sem]
      refine bodyPost_ret (v := .tuple #[.agg #[.int .i64 (0), .int .i64 (0), .int .i64 (0), .int .i64 (0), .int .i64 (0)], .bool false]) (by simp [results, Try.results13, go_sem, k0, k1, k2, k3, k4]) rfl ⟨rfl, ?_⟩
      have hb0 : Below w.heap.size w w1 := below_tr (below_al (below_al (Below.refl _ _) _) _) hb
      exact ((((hb0.setCell (by simp) _).setCell (by simp) _).setCell (by simp) _).setCell (by simp) _).setCell (by simp) _
    · go_enter Try.func13, Try.ntmps13
      go_wp2_with (go_at_call 17; refine (HR.out _).mono ?_; rintro e w1 ⟨rfl, hb⟩; obtain ⟨hc, hf⟩ := bcell hb; have hz : w.heap.size + 2 ≤ w1.heap.size := by have := hb.size; simp at this; omega)
      have k0 : w1.cell? ⟨w.heap.size, 0, none⟩ = some (.int .i64 0) := by rw [hc _ _ (by simp; omega)]; simp [go_sem]
      have k1 : w1.cell? ⟨w.heap.size, 1, none⟩ = some (.int .i64 0) := by rw [hc _ _ (by simp; omega)]; simp [go_sem]
      have k2 : w1.cell? ⟨w.heap.size, 2, none⟩ = some (.int .i64 0) := by rw [hc _ _ (by simp; omega)]; simp [go_sem]
      have k3 : w1.cell? ⟨w.heap.size, 3, none⟩ = some (.int .i64 0) := by rw [hc _ _ (by simp; omega)]; simp [go_sem]
      have k4 : w1.cell? ⟨w.heap.size, 4, none⟩ = some (.int .i64 0) := by rw [hc _ _ (by simp; omega)]; simp [go_sem]
      refine bodyPost_ret (v := .tuple #[.agg #[.int .i64 (o), .int .i64 (d), .int .i64 (a), .int .i64 (b), .int .i64 (imm)], .bool true]) (by simp [results, Try.results13, go_sem, k0, k1, k2, k3, k4]) rfl ⟨rfl, ?_⟩
      have hb0 : Below w.heap.size w w1 := below_tr (below_al (below_al (Below.refl _ _) _) _) hb
      exact ((((hb0.setCell (by simp) _).setCell (by simp) _).setCell (by simp) _).setCell (by simp) _).setCell (by simp) _

theorem decode_any (x : Int) (h0 : 0 ≤ x) (h1 : x < 4294967296) (w : World) : Calls Try.prog 13 #[.int .u32 x] w fun e w' => e = .returned (.tuple #[(decT x).1.val, .bool (decT x).2]) ∧ Below w.heap.size w w' := by
  have h := decode_core x (x / 67108864) (x % 16384) (x / 4194304 % 16) (x / 262144 % 16) (x / 16384 % 16) h0 h1 (by omega) (by omega) (by omega) (by omega) (by omega) (by omega) (by omega) (by omega) (rightB (decI x)) rfl (and_low x h0 h1)
    (and_15 _ (by omega) (by omega)) (and_15 _ (by omega) (by omega)) (and_15 _ (by omega) (by omega)) (by omega) (by omega) (immOf x) rfl rfl w
  have e : decT x = (if rightB (decI x) = true then (⟨x / 67108864, x / 4194304 % 16, x / 262144 % 16, x / 16384 % 16, immOf x⟩ : Ins) else zeroI, rightB (decI x)) := by
    unfold decT
    cases rightB (decI x) <;> rfl
  rw [e]
  exact h


set_option maxHeartbeats 2000000 in
theorem refDecode_core (x o m d a b : Int) (h0 : 0 ≤ x) (h1 : x < 4294967296) (m0 : 0 ≤ m) (m1 : m < 16384) (d0 : 0 ≤ d) (d1 : d < 16) (a0 : 0 ≤ a) (a1 : a < 16) (b0 : 0 ≤ b) (b1 : b < 16) (r : Bool)
    (e0 : x / 67108864 = o) (e1 : bits BinOp.and IntKind.u32 x 16383 = m) (e2 : bits BinOp.and IntKind.u32 (x / 4194304) 15 = d) (e3 : bits BinOp.and IntKind.u32 (x / 262144) 15 = a) (e4 : bits BinOp.and IntKind.u32 (x / 16384) 15 = b) (c0 : 0 ≤ o) (c1 : o < 64)
    (imm : Int) (hi : imm = if 8192 ≤ m then m - 16384 else m) (hr : encT ⟨o, d, a, b, imm⟩ = if r then (x, true) else (0, false)) (w : World) :
    Calls Try.prog 14 #[.int .u32 x] w fun e w' => e = .returned (.tuple #[(if r then (⟨o, d, a, b, imm⟩ : Ins) else zeroI).val, .bool r]) ∧ Below w.heap.size w w' := by
  by_cases c : 8192 ≤ m
  · rw [if_pos c] at hi
    subst hi
    cases r
    · have hr' := fun w => refEncode_any ⟨o, d, a, b, m - 16384⟩ w
      rw [hr] at hr'
      unfold Ins.val at hr'
      have HR := hid hr'
      clear hr' hr
      go_enter Try.func14, Try.ntmps14
      go_wp2_with (go_at_call 12; refine (HR.out _).mono ?_; rintro e w1 ⟨rfl, hb⟩; obtain ⟨hc, hf⟩ := bcell hb; have hz : w.heap.size + 2 ≤ w1.heap.size := by have := hb.size; simp at this; omega)
      have k0 : w1.cell? ⟨w.heap.size, 0, none⟩ = some (.int .i64 0) := by rw [hc _ _ (by simp; omega)]; simp [go_sem]
      have k1 : w1.cell? ⟨w.heap.size, 1, none⟩ = some (.int .i64 0) := by rw [hc _ _ (by simp; omega)]; simp [go_sem]
      have k2 : w1.cell? ⟨w.heap.size, 2, none⟩ = some (.int .i64 0) := by rw [hc _ _ (by simp; omega)]; simp [go_sem]
      have k3 : w1.cell? ⟨w.heap.size, 3, none⟩ = some (.int .i64 0) := by rw [hc _ _ (by simp; omega)]; simp [go_sem]
      have k4 : w1.cell? ⟨w.heap.size, 4, none⟩ = some (.int .i64 0) := by rw [hc _ _ (by simp; omega)]; simp [go_sem]
      refine bodyPost_ret (v := .tuple #[.agg #[.int .i64 (0), .int .i64 (0), .int .i64 (0), .int .i64 (0), .int .i64 (0)], .bool false]) (by simp [results, Try.results14, go_sem, k0, k1, k2, k3, k4]) rfl ⟨rfl, ?_⟩
      have hb0 : Below w.heap.size w w1 := below_tr (below_al (below_al (Below.refl _ _) _) _) hb
      exact ((((hb0.setCell (by simp) _).setCell (by simp) _).setCell (by simp) _).setCell (by simp) _).setCell (by simp) _
    · have hr' := fun w => refEncode_any ⟨o, d, a, b, m - 16384⟩ w
      rw [hr] at hr'
      unfold Ins.val at hr'
      have HR := hid hr'
      clear hr' hr
      go_enter Try.func14, Try.ntmps14
      go_wp2_with (go_at_call 12; refine (HR.out _).mono ?_; rintro e w1 ⟨rfl, hb⟩; obtain ⟨hc, hf⟩ := bcell hb; have hz : w.heap.size + 2 ≤ w1.heap.size := by have := hb.size; simp at this; omega)
      have k0 : w1.cell? ⟨w.heap.size, 0, none⟩ = some (.int .i64 0) := by rw [hc _ _ (by simp; omega)]; simp [go_sem]
      have k1 : w1.cell? ⟨w.heap.size, 1, none⟩ = some (.int .i64 0) := by rw [hc _ _ (by simp; omega)]; simp [go_sem]
      have k2 : w1.cell? ⟨w.heap.size, 2, none⟩ = some (.int .i64 0) := by rw [hc _ _ (by simp; omega)]; simp [go_sem]
      have k3 : w1.cell? ⟨w.heap.size, 3, none⟩ = some (.int .i64 0) := by rw [hc _ _ (by simp; omega)]; simp [go_sem]
      have k4 : w1.cell? ⟨w.heap.size, 4, none⟩ = some (.int .i64 0) := by rw [hc _ _ (by simp; omega)]; simp [go_sem]
      refine bodyPost_ret (v := .tuple #[.agg #[.int .i64 (o), .int .i64 (d), .int .i64 (a), .int .i64 (b), .int .i64 (m - 16384)], .bool true]) (by simp [results, Try.results14, go_sem, k0, k1, k2, k3, k4]) rfl ⟨rfl, ?_⟩
      have hb0 : Below w.heap.size w w1 := below_tr (below_al (below_al (Below.refl _ _) _) _) hb
      exact ((((hb0.setCell (by simp) _).setCell (by simp) _).setCell (by simp) _).setCell (by simp) _).setCell (by simp) _
  · rw [if_neg c] at hi
    subst hi
    cases r
    · have hr' := fun w => refEncode_any ⟨o, d, a, b, imm⟩ w
      rw [hr] at hr'
      unfold Ins.val at hr'
      have HR := hid hr'
      clear hr' hr
      go_enter Try.func14, Try.ntmps14
      go_wp2_with (go_at_call 12; refine (HR.out _).mono ?_; rintro e w1 ⟨rfl, hb⟩; obtain ⟨hc, hf⟩ := bcell hb; have hz : w.heap.size + 2 ≤ w1.heap.size := by have := hb.size; simp at this; omega)
      have k0 : w1.cell? ⟨w.heap.size, 0, none⟩ = some (.int .i64 0) := by rw [hc _ _ (by simp; omega)]; simp [go_sem]
      have k1 : w1.cell? ⟨w.heap.size, 1, none⟩ = some (.int .i64 0) := by rw [hc _ _ (by simp; omega)]; simp [go_sem]
      have k2 : w1.cell? ⟨w.heap.size, 2, none⟩ = some (.int .i64 0) := by rw [hc _ _ (by simp; omega)]; simp [go_sem]
      have k3 : w1.cell? ⟨w.heap.size, 3, none⟩ = some (.int .i64 0) := by rw [hc _ _ (by simp; omega)]; simp [go_sem]
      have k4 : w1.cell? ⟨w.heap.size, 4, none⟩ = some (.int .i64 0) := by rw [hc _ _ (by simp; omega)]; simp [go_sem]
      refine bodyPost_ret (v := .tuple #[.agg #[.int .i64 (0), .int .i64 (0), .int .i64 (0), .int .i64 (0), .int .i64 (0)], .bool false]) (by simp [results, Try.results14, go_sem, k0, k1, k2, k3, k4]) rfl ⟨rfl, ?_⟩
      have hb0 : Below w.heap.size w w1 := below_tr (below_al (below_al (Below.refl _ _) _) _) hb
      exact ((((hb0.setCell (by simp) _).setCell (by simp) _).setCell (by simp) _).setCell (by simp) _).setCell (by simp) _
    · have hr' := fun w => refEncode_any ⟨o, d, a, b, imm⟩ w
      rw [hr] at hr'
      unfold Ins.val at hr'
      have HR := hid hr'
      clear hr' hr
      go_enter Try.func14, Try.ntmps14
      go_wp2_with (go_at_call 12; refine (HR.out _).mono ?_; rintro e w1 ⟨rfl, hb⟩; obtain ⟨hc, hf⟩ := bcell hb; have hz : w.heap.size + 2 ≤ w1.heap.size := by have := hb.size; simp at this; omega)
      have k0 : w1.cell? ⟨w.heap.size, 0, none⟩ = some (.int .i64 0) := by rw [hc _ _ (by simp; omega)]; simp [go_sem]
      have k1 : w1.cell? ⟨w.heap.size, 1, none⟩ = some (.int .i64 0) := by rw [hc _ _ (by simp; omega)]; simp [go_sem]
      have k2 : w1.cell? ⟨w.heap.size, 2, none⟩ = some (.int .i64 0) := by rw [hc _ _ (by simp; omega)]; simp [go_sem]
      have k3 : w1.cell? ⟨w.heap.size, 3, none⟩ = some (.int .i64 0) := by rw [hc _ _ (by simp; omega)]; simp [go_sem]
      have k4 : w1.cell? ⟨w.heap.size, 4, none⟩ = some (.int .i64 0) := by rw [hc _ _ (by simp; omega)]; simp [go_sem]
      refine bodyPost_ret (v := .tuple #[.agg #[.int .i64 (o), .int .i64 (d), .int .i64 (a), .int .i64 (b), .int .i64 (imm)], .bool true]) (by simp [results, Try.results14, go_sem, k0, k1, k2, k3, k4]) rfl ⟨rfl, ?_⟩
      have hb0 : Below w.heap.size w w1 := below_tr (below_al (below_al (Below.refl _ _) _) _) hb
      exact ((((hb0.setCell (by simp) _).setCell (by simp) _).setCell (by simp) _).setCell (by simp) _).setCell (by simp) _

theorem refDecode_any (x : Int) (h0 : 0 ≤ x) (h1 : x < 4294967296) (w : World) : Calls Try.prog 14 #[.int .u32 x] w fun e w' => e = .returned (.tuple #[(decT x).1.val, .bool (decT x).2]) ∧ Below w.heap.size w w' := by
  have hr : encT (decI x) = if rightB (decI x) then (x, true) else (0, false) := by
    unfold encT
    rw [enc_dec x h0 h1]
  have h := refDecode_core x (x / 67108864) (x % 16384) (x / 4194304 % 16) (x / 262144 % 16) (x / 16384 % 16) h0 h1 (by omega) (by omega) (by omega) (by omega) (by omega) (by omega) (by omega) (by omega) (rightB (decI x)) rfl (and_low x h0 h1)
    (and_15 _ (by omega) (by omega)) (and_15 _ (by omega) (by omega)) (and_15 _ (by omega) (by omega)) (by omega) (by omega) (immOf x) rfl hr w
  have e : decT x = (if rightB (decI x) = true then (⟨x / 67108864, x / 4194304 % 16, x / 262144 % 16, x / 16384 % 16, immOf x⟩ : Ins) else zeroI, rightB (decI x)) := by
    unfold decT
    cases rightB (decI x) <;> rfl
  rw [e]
  exact h

/-- the registers that are read -/
def readsL (i : Ins) : List Int :=
  if rightB i then (if hasAB (form i.op) && !(i.a == 0) then [i.a] else []) ++ (if hasBB (form i.op) && !(i.b == 0) then [i.b] else []) else []
def writesI (i : Ins) : Int := if rightB i then (if hasDB (form i.op) then i.d else 0) else 0
theorem writes_d (i : Ins) (h : rightB i = true) : writesI i = i.d := by
  unfold writesI
  rw [if_pos h]
  cases hd : hasDB (form i.op) with
  | true => rfl
  | false =>
    simp only [rightB, Bool.and_eq_true] at h
    have := h.1.1.1.2
    rw [hd] at this
    simp [withinB] at this
    simp [this]

theorem writes_no (op d a b imm : Int) (h : rightB ⟨op, d, a, b, imm⟩ = false) (w : World) : Calls Try.prog 22 #[.agg #[.int .i64 op, .int .i64 d, .int .i64 a, .int .i64 b, .int .i64 imm]] w fun e w' => e = .returned (.int .i64 0) ∧ Below w.heap.size w w' := by
  have hr := fun w => right_any ⟨op, d, a, b, imm⟩ w
  rw [h] at hr
  unfold Ins.val at hr
  have HR := hid hr
  clear hr
  clear h
  go_enter Try.func22, Try.ntmps22
  go_wp2_with (first | (go_at_call 17; refine (HR.out _).mono ?_; rintro e w1 ⟨rfl, hb⟩; obtain ⟨hc, hf⟩ := bcell hb) | (go_at_call 15; refine (form_any _ _).mono ?_; rintro e w2 ⟨rfl, rfl⟩) | (go_at_call 25; refine (hasD_any _ _).mono ?_; rintro e w2 ⟨rfl, rfl⟩))
  go_ret
  exact ⟨rfl, below_tr (below_al (Below.refl _ _) _) hb⟩

theorem writes_yes (op d a b imm : Int) (h : rightB ⟨op, d, a, b, imm⟩ = true) (h2 : hasDB (form op) = true) (w : World) : Calls Try.prog 22 #[.agg #[.int .i64 op, .int .i64 d, .int .i64 a, .int .i64 b, .int .i64 imm]] w fun e w' => e = .returned (.int .i64 d) ∧ Below w.heap.size w w' := by
  have hr := fun w => right_any ⟨op, d, a, b, imm⟩ w
  rw [h] at hr
  unfold Ins.val at hr
  have HR := hid hr
  clear hr
  clear h
  go_enter Try.func22, Try.ntmps22
  go_wp2_with (first | (go_at_call 17; refine (HR.out _).mono ?_; rintro e w1 ⟨rfl, hb⟩; obtain ⟨hc, hf⟩ := bcell hb) | (go_at_call 15; refine (form_any _ _).mono ?_; rintro e w2 ⟨rfl, rfl⟩) | (go_at_call 25; refine (hasD_any _ _).mono ?_; rintro e w2 ⟨rfl, rfl⟩))
  go_ret
  exact ⟨rfl, below_tr (below_al (Below.refl _ _) _) hb⟩

theorem writes_nod (op d a b imm : Int) (h : rightB ⟨op, d, a, b, imm⟩ = true) (h2 : hasDB (form op) = false) (w : World) : Calls Try.prog 22 #[.agg #[.int .i64 op, .int .i64 d, .int .i64 a, .int .i64 b, .int .i64 imm]] w fun e w' => e = .returned (.int .i64 0) ∧ Below w.heap.size w w' := by
  have hr := fun w => right_any ⟨op, d, a, b, imm⟩ w
  rw [h] at hr
  unfold Ins.val at hr
  have HR := hid hr
  clear hr
  clear h
  go_enter Try.func22, Try.ntmps22
  go_wp2_with (first | (go_at_call 17; refine (HR.out _).mono ?_; rintro e w1 ⟨rfl, hb⟩; obtain ⟨hc, hf⟩ := bcell hb) | (go_at_call 15; refine (form_any _ _).mono ?_; rintro e w2 ⟨rfl, rfl⟩) | (go_at_call 25; refine (hasD_any _ _).mono ?_; rintro e w2 ⟨rfl, rfl⟩))
  go_ret
  exact ⟨rfl, below_tr (below_al (Below.refl _ _) _) hb⟩

theorem writes_any (i : Ins) (w : World) : Calls Try.prog 22 #[i.val] w fun e w' => e = .returned (.int .i64 (writesI i)) ∧ Below w.heap.size w w' := by
  obtain ⟨op, d, a, b, imm⟩ := i
  unfold writesI
  cases h : rightB ⟨op, d, a, b, imm⟩ with
  | false => exact writes_no op d a b imm h w
  | true =>
    cases h2 : hasDB (form op) with
    | true => simp only [h2, if_true]; exact writes_yes op d a b imm h h2 w
    | false => simp only [h2, if_true]; exact writes_nod op d a b imm h h2 w

theorem refWrites_no (op d a b imm : Int) (h : rightB ⟨op, d, a, b, imm⟩ = false) (w : World) : Calls Try.prog 23 #[.agg #[.int .i64 op, .int .i64 d, .int .i64 a, .int .i64 b, .int .i64 imm]] w fun e w' => e = .returned (.int .i64 0) ∧ Below w.heap.size w w' := by
  have hr := fun w => refRight_any ⟨op, d, a, b, imm⟩ w
  rw [h] at hr
  unfold Ins.val at hr
  have HR := hid hr
  clear hr
  clear h
  go_enter Try.func23, Try.ntmps23
  go_wp2_with (go_at_call 18; refine (HR.out _).mono ?_; rintro e w1 ⟨rfl, hb⟩; obtain ⟨hc, hf⟩ := bcell hb)
  go_ret
  exact ⟨rfl, below_tr (below_al (Below.refl _ _) _) hb⟩

theorem refWrites_yes (op d a b imm : Int) (h : rightB ⟨op, d, a, b, imm⟩ = true) (w : World) : Calls Try.prog 23 #[.agg #[.int .i64 op, .int .i64 d, .int .i64 a, .int .i64 b, .int .i64 imm]] w fun e w' => e = .returned (.int .i64 d) ∧ Below w.heap.size w w' := by
  have hr := fun w => refRight_any ⟨op, d, a, b, imm⟩ w
  rw [h] at hr
  unfold Ins.val at hr
  have HR := hid hr
  clear hr
  clear h
  go_enter Try.func23, Try.ntmps23
  go_wp2_with (go_at_call 18; refine (HR.out _).mono ?_; rintro e w1 ⟨rfl, hb⟩; obtain ⟨hc, hf⟩ := bcell hb)
  go_ret
  exact ⟨rfl, below_tr (below_al (Below.refl _ _) _) hb⟩

theorem refWrites_any (i : Ins) (w : World) : Calls Try.prog 23 #[i.val] w fun e w' => e = .returned (.int .i64 (writesI i)) ∧ Below w.heap.size w w' := by
  cases h : rightB i with
  | false => unfold writesI; rw [h]; exact refWrites_no i.op i.d i.a i.b i.imm h w
  | true => rw [writes_d i h]; exact refWrites_yes i.op i.d i.a i.b i.imm h w

end Go.Proofs.Ytegalldldcaocaa
