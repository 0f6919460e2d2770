/-
The laws IsaBack, IsaWords and IsaBits of chapter 2 answer true, whatever their arguments are.
-/
import Derived.Test.YtegalldldcaocaaIsaLaw
namespace Go.Proofs.Ytegalldldcaocaa
open Go.RowKit

theorem Rd.eqw {W W1 : World} {A : Option Addr} {vs : List Value} (h : Rd W A vs) (e : Eqw W1 W) : Rd W1 A vs := h.below (bl_eq (Below.refl _ _) e)

theorem encT_right {i : Ins} (h : rightB i = true) : encT i = (encW i, true) := by unfold encT; rw [if_pos h]
theorem encT_wrong {i : Ins} (h : rightB i = false) : encT i = (0, false) := by unfold encT; rw [h]; rfl
theorem decT_enc {i : Ins} (h : rightB i = true) : decT (encW i) = (i, true) := by
  unfold decT
  rw [dec_enc i (right_fit h), if_pos h]
theorem enc_inj {i k : Ins} (hi : rightB i = true) (hk : rightB k = true) (h : encW i = encW k) : i = k := by
  rw [← dec_enc i (right_fit hi), h, dec_enc k (right_fit hk)]

set_option maxHeartbeats 2000000 in
theorem isaWords_no (x : Int) (w : World) (h0 : 0 ≤ x) (h1 : x < 4294967296) (hr : rightB (decI x) = false) :
    Calls Try.prog 5 #[.int .u32 x] w fun e w' => e = .returned (.bool true) ∧ Below w.heap.size w w' := by
  have Hd := hid (fun w => decode_any x h0 h1 w)
  have e : decT x = (zeroI, false) := by unfold decT; rw [hr]; rfl
  rw [e] at Hd
  simp only [Ins.val, zeroI] at Hd
  clear e
  go_enter Try.func5, Try.ntmps5
  go_wp2_with fail
  refine (alive2_any _).mono ?_
  rintro e w1 ⟨rfl, b1⟩
  have hE : Ext w1 w1 := Ext.refl w1
  go_wp2_with (first | (go_at_call 13; refine (Hd.out _).mono ?_; rintro e w9 ⟨rfl, b9⟩; have hE' := Ext.tr hE b9 (by exact ⟨rfl, rfl, rfl, rfl⟩); clear hE b9; have hE := hE'; clear hE'))
  go_ret
  exact ⟨rfl, below_al (below_tr b1 hE) _⟩

set_option maxHeartbeats 2000000 in
theorem isaWords_yes (x : Int) (w : World) (h0 : 0 ≤ x) (h1 : x < 4294967296) (hr : rightB (decI x) = true) :
    Calls Try.prog 5 #[.int .u32 x] w fun e w' => e = .returned (.bool true) ∧ Below w.heap.size w w' := by
  have Hd := hid (fun w => decode_any x h0 h1 w)
  have e : decT x = (decI x, true) := by unfold decT; rw [if_pos hr]
  rw [e] at Hd
  clear e
  obtain ⟨i, hi⟩ : ∃ i, decI x = i := ⟨_, rfl⟩
  have hx : encT i = (x, true) := by rw [← hi, encT_right hr, enc_dec x h0 h1]
  rw [hi] at Hd hr
  have hf := (right_fit hr).op0
  have hf' : 0 < form i.op := by simp only [rightB, Bool.and_eq_true, decide_eq_true_eq] at hr; exact hr.1.1.1.1
  have He := hid (fun w => encode_any i w)
  have Hr := hid (fun w => right_any i w)
  have Hf := hid (fun w => form_any i.op w)
  rw [hx] at He
  rw [hr] at Hr
  obtain ⟨op, d, a, b, imm⟩ := i
  simp only [Ins.val] at Hd He Hr Hf
  simp only at hf'
  clear hi hx hr hf
  go_enter Try.func5, Try.ntmps5
  go_wp2_with fail
  refine (alive2_any _).mono ?_
  rintro e w1 ⟨rfl, b1⟩
  go_wp2_with fail
  refine (Hd.out _).mono ?_
  rintro e w2 ⟨rfl, b2⟩
  have x2 := BoxI.new w2 op d a b imm 23
  have B2 := below_al (below_tr b1 b2) (.cells #[.int .i64 op, .int .i64 d, .int .i64 a, .int .i64 b, .int .i64 imm] 23)
  clear b1 b2
  go_wp2_with fail
  obtain ⟨w6, hw6⟩ : ∃ w6, w6 = w2.alloc (.cells #[.int .i64 op, .int .i64 d, .int .i64 a, .int .i64 b, .int .i64 imm] 23) := ⟨_, rfl⟩
  rw [← hw6] at x2 B2 ⊢
  obtain ⟨kx0, kx1, kx2, kx3, kx4⟩ := x2.ext
  have hE : Ext w6 w6 := Ext.refl w6
  clear x2 hw6
  refine (He.out _).mono ?_
  rintro e w9 ⟨rfl, b9⟩
  have hE' := Ext.tr hE b9 (by exact ⟨rfl, rfl, rfl, rfl⟩)
  clear hE b9
  have hE := hE'
  clear hE'
  go_wp2_with (first | (go_at_call 17; refine (Hr.out _).mono ?_; rintro e w9 ⟨rfl, b9⟩; have hE' := Ext.tr hE b9 (by exact ⟨rfl, rfl, rfl, rfl⟩); clear hE b9; have hE := hE'; clear hE') | (go_at_call 15; refine (Hf.out _).mono ?_; rintro e w9 ⟨rfl, rfl⟩))
  go_ret
  exact ⟨rfl, below_tr B2 hE⟩

theorem isaWords_any (x : Int) (w : World) (h0 : 0 ≤ x) (h1 : x < 4294967296) :
    Calls Try.prog 5 #[.int .u32 x] w fun e w' => e = .returned (.bool true) ∧ Below w.heap.size w w' := by
  cases hr : rightB (decI x) with
  | true => exact isaWords_yes x w h0 h1 hr
  | false => exact isaWords_no x w h0 h1 hr

set_option maxHeartbeats 2000000 in
theorem isaBits_no (op d a b imm : Int) (w : World) (hr : rightB ⟨op, d, a, b, imm⟩ = false) :
    Calls Try.prog 7 #[.agg #[.int .i64 op, .int .i64 d, .int .i64 a, .int .i64 b, .int .i64 imm]] w fun e w' => e = .returned (.bool true) ∧ Below w.heap.size w w' := by
  have He := hid (fun w => encode_any ⟨op, d, a, b, imm⟩ w)
  rw [encT_wrong hr] at He
  simp only [Ins.val] at He
  clear hr
  go_enter Try.func7, Try.ntmps7
  go_wp2_with fail
  refine (alive2_any _).mono ?_
  rintro e w1 ⟨rfl, b1⟩
  have x1 := (BoxI.new w op d a b imm 23).below b1
  have B1 := below_tr (below_al (Below.refl _ _) _) b1
  obtain ⟨kx0, kx1, kx2, kx3, kx4⟩ := x1.ext
  have hE : Ext w1 w1 := Ext.refl w1
  clear b1 x1
  go_wp2_with (first | (go_at_call 11; refine (He.out _).mono ?_; rintro e w9 ⟨rfl, b9⟩; have hE' := Ext.tr hE b9 (by exact ⟨rfl, rfl, rfl, rfl⟩); clear hE b9; have hE := hE'; clear hE'))
  go_ret
  exact ⟨rfl, below_tr B1 hE⟩

set_option maxHeartbeats 4000000 in
theorem isaBits_core (op d a b imm e : Int) (w : World) (he : encT ⟨op, d, a, b, imm⟩ = (e, true)) (m : Int) (q0 : (e / 67108864 == op) = true) (q1 : (wrap64 (bits BinOp.and IntKind.u32 (e / 4194304) 15) == d) = true) (q2 : (wrap64 (bits BinOp.and IntKind.u32 (e / 262144) 15) == a) = true)
    (q3 : (wrap64 (bits BinOp.and IntKind.u32 (e / 16384) 15) == b) = true) (q4 : (wrap64 (bits BinOp.and IntKind.u32 e 16383) == m) = true) (hm : m = if imm < 0 then imm + 16384 else imm) (e0 : 0 ≤ e) (e1 : e < 4294967296) (i0 : -8192 ≤ imm) (i1 : imm ≤ 8191) :
    Calls Try.prog 7 #[.agg #[.int .i64 op, .int .i64 d, .int .i64 a, .int .i64 b, .int .i64 imm]] w fun e w' => e = .returned (.bool true) ∧ Below w.heap.size w w' := by
  have He := hid (fun w => encode_any ⟨op, d, a, b, imm⟩ w)
  rw [he] at He
  simp only [Ins.val] at He
  clear he
  by_cases c : imm < 0
  · rw [if_pos c] at hm
    subst hm
    go_enter Try.func7, Try.ntmps7
    go_wp2_with fail
    refine (alive2_any _).mono ?_
    rintro e w1 ⟨rfl, b1⟩
    have x1 := (BoxI.new w op d a b imm 23).below b1
    have B1 := below_tr (below_al (Below.refl _ _) _) b1
    obtain ⟨kx0, kx1, kx2, kx3, kx4⟩ := x1.ext
    have hE : Ext w1 w1 := Ext.refl w1
    clear b1 x1
    go_wp2_with (first | (go_at_call 11; refine (He.out _).mono ?_; rintro e w9 ⟨rfl, b9⟩; have hE' := Ext.tr hE b9 (by exact ⟨rfl, rfl, rfl, rfl⟩); clear hE b9; have hE := hE'; clear hE'))
    go_ret
    exact ⟨rfl, below_tr B1 hE⟩
  · rw [if_neg c] at hm
    subst hm
    go_enter Try.func7, Try.ntmps7
    go_wp2_with fail
    refine (alive2_any _).mono ?_
    rintro e w1 ⟨rfl, b1⟩
    have x1 := (BoxI.new w op d a b m 23).below b1
    have B1 := below_tr (below_al (Below.refl _ _) _) b1
    obtain ⟨kx0, kx1, kx2, kx3, kx4⟩ := x1.ext
    have hE : Ext w1 w1 := Ext.refl w1
    clear b1 x1
    go_wp2_with (first | (go_at_call 11; refine (He.out _).mono ?_; rintro e w9 ⟨rfl, b9⟩; have hE' := Ext.tr hE b9 (by exact ⟨rfl, rfl, rfl, rfl⟩); clear hE b9; have hE := hE'; clear hE'))
    go_ret
    exact ⟨rfl, below_tr B1 hE⟩

theorem isaBits_any (op d a b imm : Int) (w : World) :
    Calls Try.prog 7 #[.agg #[.int .i64 op, .int .i64 d, .int .i64 a, .int .i64 b, .int .i64 imm]] w fun e w' => e = .returned (.bool true) ∧ Below w.heap.size w w' := by
  cases hr : rightB ⟨op, d, a, b, imm⟩ with
  | false => exact isaBits_no op d a b imm w hr
  | true =>
    have hf := right_fit hr
    have hg := enc_range _ hf
    have hd := dec_enc _ hf
    obtain ⟨o0, o1, d0, d1, a0, a1, b0, b1, m0, m1⟩ := hf
    simp only at o0 o1 d0 d1 a0 a1 b0 b1 m0 m1
    obtain ⟨e, he⟩ : ∃ e, encW ⟨op, d, a, b, imm⟩ = e := ⟨_, rfl⟩
    have ht := encT_right hr
    rw [he] at hg hd ht
    unfold decI immOf at hd
    simp only [Ins.mk.injEq] at hd
    obtain ⟨p0, p1, p2, p3, p4⟩ := hd
    have W : ∀ n : Int, 0 ≤ n → n < 65536 → wrap64 n = n := fun n h h' => by unfold wrap64; omega
    refine isaBits_core op d a b imm e w ht (if imm < 0 then imm + 16384 else imm) ?_ ?_ ?_ ?_ ?_ rfl hg.1 hg.2 m0 m1
    · rw [p0]; exact beq_self_eq_true _
    · rw [and_15 _ (by omega) (by omega), p1, W _ d0 (by omega)]; exact beq_self_eq_true _
    · rw [and_15 _ (by omega) (by omega), p2, W _ a0 (by omega)]; exact beq_self_eq_true _
    · rw [and_15 _ (by omega) (by omega), p3, W _ b0 (by omega)]; exact beq_self_eq_true _
    · rw [and_low _ hg.1 hg.2, W _ (by omega) (by omega), beq_iff_eq]
      split at p4 <;> split <;> omega

end Go.Proofs.Ytegalldldcaocaa
