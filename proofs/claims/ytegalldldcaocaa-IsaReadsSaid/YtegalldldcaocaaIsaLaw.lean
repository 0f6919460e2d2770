/-
The laws of chapter 2: each answers true, whatever its arguments are.
-/
import Derived.Test.YtegalldldcaocaaIsaD
namespace Go.Proofs.Ytegalldldcaocaa
open Go.RowKit

theorem siz {w w1 : World} {n : Nat} (hb : Below w.heap.size w w1) (h : n ≤ w.heap.size) : n ≤ w1.heap.size := Nat.le_trans h hb.size

/-- an instruction lies in block B -/
def BoxI (w : World) (B : Nat) (i : Ins) : Prop :=
  w.cell? ⟨B, 0, none⟩ = some (.int .i64 i.op) ∧ w.cell? ⟨B, 1, none⟩ = some (.int .i64 i.d) ∧ w.cell? ⟨B, 2, none⟩ = some (.int .i64 i.a) ∧ w.cell? ⟨B, 3, none⟩ = some (.int .i64 i.b) ∧ w.cell? ⟨B, 4, none⟩ = some (.int .i64 i.imm)
theorem BoxI.new (w : World) (op d a b imm : Int) (T : TypeId) : BoxI (w.alloc (.cells #[.int .i64 op, .int .i64 d, .int .i64 a, .int .i64 b, .int .i64 imm] T)) w.heap.size ⟨op, d, a, b, imm⟩ := by
  refine ⟨?_, ?_, ?_, ?_, ?_⟩ <;> simp [go_sem]
theorem BoxI.below {w w1 : World} {B : Nat} {i : Ins} (h : BoxI w B i) (hb : Below w.heap.size w w1) : BoxI w1 B i :=
  ⟨cell_below hb h.1, cell_below hb h.2.1, cell_below hb h.2.2.1, cell_below hb h.2.2.2.1, cell_below hb h.2.2.2.2⟩
theorem BoxI.al {w : World} {B : Nat} {i : Ins} (h : BoxI w B i) (o : Obj) : BoxI (w.alloc o) B i := h.below (below_al (Below.refl _ _) o)
theorem BoxI.als {w : World} {B : Nat} {i : Ins} (h : BoxI w B i) : (∀ o, (w.alloc o).cell? ⟨B, 0, none⟩ = some (.int .i64 i.op)) ∧ (∀ o, (w.alloc o).cell? ⟨B, 1, none⟩ = some (.int .i64 i.d)) ∧ (∀ o, (w.alloc o).cell? ⟨B, 2, none⟩ = some (.int .i64 i.a)) ∧ (∀ o, (w.alloc o).cell? ⟨B, 3, none⟩ = some (.int .i64 i.b)) ∧ (∀ o, (w.alloc o).cell? ⟨B, 4, none⟩ = some (.int .i64 i.imm)) :=
  ⟨fun o => (h.al o).1, fun o => (h.al o).2.1, fun o => (h.al o).2.2.1, fun o => (h.al o).2.2.2.1, fun o => (h.al o).2.2.2.2⟩

theorem BoxI.ext {w : World} {B : Nat} {i : Ins} (h : BoxI w B i) : (∀ W, Ext w W → W.cell? ⟨B, 0, none⟩ = some (.int .i64 i.op)) ∧ (∀ W, Ext w W → W.cell? ⟨B, 1, none⟩ = some (.int .i64 i.d)) ∧ (∀ W, Ext w W → W.cell? ⟨B, 2, none⟩ = some (.int .i64 i.a)) ∧ (∀ W, Ext w W → W.cell? ⟨B, 3, none⟩ = some (.int .i64 i.b)) ∧ (∀ W, Ext w W → W.cell? ⟨B, 4, none⟩ = some (.int .i64 i.imm)) :=
  ⟨ext_cell h.1, ext_cell h.2.1, ext_cell h.2.2.1, ext_cell h.2.2.2.1, ext_cell h.2.2.2.2⟩

set_option maxHeartbeats 2000000 in
theorem alive2_any (w : World) : Calls Try.prog 10 #[] w fun e w' => e = .returned (.bool true) ∧ Below w.heap.size w w' := by
  have he := fun w => encode_any ⟨17, 1, 2, 0, -3⟩ w
  rw [show encT ⟨17, 1, 2, 0, -3⟩ = (1145585661, true) by decide] at he
  have hd := fun w => decode_any 1145585661 (by omega) (by omega) w
  rw [show decT 1145585661 = (⟨17, 1, 2, 0, -3⟩, true) by decide] at hd
  have hf := fun w => form_any 41 w
  rw [show form 41 = 8 by decide] at hf
  have hr := fun w => right_any ⟨17, 1, 2, 0, -3⟩ w
  rw [show rightB ⟨17, 1, 2, 0, -3⟩ = true by decide] at hr
  have hw := fun w => writes_any ⟨17, 1, 2, 0, -3⟩ w
  rw [show writesI ⟨17, 1, 2, 0, -3⟩ = 1 by decide] at hw
  have hs := fun w => reads_any ⟨17, 1, 2, 0, -3⟩ w
  rw [show readsL ⟨17, 1, 2, 0, -3⟩ = [2] by decide] at hs
  unfold Ins.val at he hd hr hw hs
  have He := hid he
  have Hd := hid hd
  have Hf := hid hf
  have Hr := hid hr
  have Hw := hid hw
  have Hs := hid hs
  clear he hd hf hr hw hs
  go_enter Try.func10, Try.ntmps10
  go_wp2_with fail
  refine (He.out _).mono ?_
  rintro e w1 ⟨rfl, b1⟩
  have x1 := (BoxI.new w 17 1 2 0 (-3) 23).below b1
  have B1 := below_tr (below_al (Below.refl _ _) _) b1
  clear b1
  go_wp2_with fail
  refine (Hd.out _).mono ?_
  rintro e w2 ⟨rfl, b2⟩
  have x2 := x1.below b2
  have B2 := below_tr B1 b2
  obtain ⟨k0, k1, k2, k3, k4⟩ := x2.als
  clear x1 B1 b2
  go_wp2_with fail
  refine (Hf.out _).mono ?_
  rintro e w3 ⟨rfl, rfl⟩
  go_wp2_with fail
  refine (Hr.out _).mono ?_
  rintro e w3 ⟨rfl, b3⟩
  have B3 := below_tr (below_al B2 _) b3
  obtain ⟨j0, j1, j2, j3, j4⟩ := (x2.al _).below b3
  have x3 := (x2.al _).below b3
  clear b3
  go_wp2_with fail
  refine (Hw.out _).mono ?_
  rintro e w4 ⟨rfl, b4⟩
  have B4 := below_tr B3 b4
  obtain ⟨i0, i1, i2, i3, i4⟩ := x3.below b4
  clear b4
  go_wp2_with fail
  refine (Hs.out _).mono ?_
  rintro e w5 ⟨v5, rfl, o5, b5⟩
  obtain ⟨A5, c5, rfl, r5, _⟩ := own_rd o5
  have B5 := below_tr B4 b5
  clear b5 o5
  go_wp2
  go_ret
  exact ⟨rfl, B5⟩

theorem same_eq (xs : List Int) (n : Nat) (hn : xs.length = n) (A1 A2 : Option Addr) (c1 c2 : Nat) (w : World) (hm : n ≤ 9223372036854775807) (h1 : Rd w A1 (nums .i64 xs)) (h2 : Rd w A2 (nums .i64 xs)) :
    Calls Try.prog 19 #[.slice A1 n c1, .slice A2 n c2] w fun e w' => e = .returned (.bool true) ∧ Drw w w' := by
  subst hn
  go_enter Try.func19, Try.ntmps19
  go_wp2
  go_loopw [5] (fun i wr => ∃ k : Nat, k ≤ xs.length ∧ i = .int .i64 k ∧ Drw w wr) (fun i _ => xs.length - (intOf i).toNat)
  case atStart => exact ⟨0, Nat.zero_le _, rfl, Drw.refl _⟩
  case round =>
    obtain ⟨k, hk, rfl, ⟨m, rfl⟩⟩ := hrel
    by_cases hlt : k < xs.length
    · obtain ⟨b, off, rfl, hc⟩ := h1.at_ (by simp; omega)
      obtain ⟨b', off', rfl, hc'⟩ := h2.at_ (by simp; omega)
      have d1 := hc k _ (nums_get .i64 xs k hlt)
      have d2 := hc' k _ (nums_get .i64 xs k hlt)
      obtain ⟨x, hx⟩ : ∃ x, xs.getD k 0 = x := ⟨_, rfl⟩
      rw [hx] at d1 d2
      clear hc hc' hx
      go_wp2
      go_quiet (fail)
      go_wp2
      go_roundw
      case rel => exact ⟨k + 1, by omega, by go_num, ⟨_, rfl⟩⟩
      case measure => simp [intOf]; omega
    · go_wp2
      go_ret
      exact ⟨rfl, ⟨_, rfl⟩⟩

end Go.Proofs.Ytegalldldcaocaa
