/-
The law WordBack of chapter 1 answers true, whatever its arguments are.
-/
import Derived.Test.YtgamljjoehncbaaWordLaws
import Derived.Test.YtgamljjoehncbaaZeros
namespace Go.Proofs.Ytgamljjoehncbaa
open Go.RowKit

theorem getW_short (xs : List Int) (n : Nat) (h : xs.length < 4 * n + 4) : getW xs (4 * (n : Int)) = (0, false) := by
  unfold getW
  rw [if_neg (by omega)]

theorem zeros_u8 (k : Nat) : (Builtin.zeroCells #[Value.int .u8 0] k).toList = nums .u8 (List.replicate k 0) := by
  apply List.ext_getElem
  · simp [nums, Builtin.zeroCells, Value.cells]
  · intro i h1 h2
    simp [nums, Builtin.zeroCells, Value.cells, Nat.mod_one]
theorem bytes_append {a b : List Int} (ha : Bytes a) (hb : Bytes b) : Bytes (a ++ b) := by
  intro j
  by_cases h : j < a.length
  · rw [getD_append_lt h]; exact ha j
  · rw [getD_append_ge (by omega)]; exact hb _
theorem bytes_zeros (k : Nat) : Bytes (List.replicate k 0) := by
  intro j
  have : (List.replicate k (0 : Int)).getD j 0 = 0 := by
    simp [List.getD_eq_getElem?_getD, List.getElem?_replicate]
    split <;> simp
  rw [this]; omega

set_option maxHeartbeats 2000000 in
theorem wordBack_any (l : List Int) (A : Option Addr) (n c : Nat) (hn : l.length = n) (cut : Int) (w : World) (hU : U32 l) (hm : n ≤ 9223372036854775807) (hr : Rd w A (nums .u32 l)) :
    Calls Try.prog 5 #[.slice A n c, .int .i64 cut] w fun e w' => e = .returned (.bool true) ∧ Below w.heap.size w w' := by
  by_cases c1 : (40 : Int) < n
  · clear hn
    go_enter Try.func5, Try.ntmps5
    go_wp2_with fail
    refine (alive1_any _).mono ?_
    rintro e w1 ⟨rfl, hb⟩
    go_wp2
    go_ret
    exact ⟨rfl, hb⟩
  by_cases c2 : cut < 0
  · clear hn
    go_enter Try.func5, Try.ntmps5
    go_wp2_with fail
    refine (alive1_any _).mono ?_
    rintro e w1 ⟨rfl, hb⟩
    go_wp2
    go_ret
    exact ⟨rfl, hb⟩
  by_cases c3 : 3 < cut
  · clear hn
    go_enter Try.func5, Try.ntmps5
    go_wp2_with fail
    refine (alive1_any _).mono ?_
    rintro e w1 ⟨rfl, hb⟩
    go_wp2
    go_ret
    exact ⟨rfl, hb⟩
  subst hn
  obtain ⟨cu, rfl⟩ := Int.eq_ofNat_of_zero_le (show 0 ≤ cut by omega)
  have lenT : ∀ k, k ≤ l.length → (putAll (l.take k)).length = 4 * k := fun k hk => by rw [putAll_len, List.length_take]; omega
  have U32T : ∀ k, U32 (l.take k) := fun k j => by
    by_cases h : j < k
    · have := hU j
      simp only [List.getD_eq_getElem?_getD, List.getElem?_take, h, if_true] at this ⊢
      exact this
    · simp [List.getD_eq_getElem?_getD, List.getElem?_take, h]
  have LT := hid lenT
  have UT := hid U32T
  have HU := hid hU
  have hbd : l.length ≤ 40 := by omega
  clear lenT U32T hU
  go_enter Try.func5, Try.ntmps5
  go_wp2_with fail
  refine (alive1_any _).mono ?_
  rintro e w1 ⟨rfl, hb⟩
  go_wp2_with fail
  go_loopw [6, 7] (fun v i wr => ∃ k : Nat, k ≤ l.length ∧ i = .int .i64 k ∧ wr.ownsRow w.heap.size 5 1 v (4 * k) (nums .u8 (putAll (l.take k))) ∧ Below w.heap.size w wr) (fun _ i _ => l.length - (intOf i).toNat)
  case atStart => exact ⟨0, Nat.zero_le _, rfl, own_nil _ _ _ _, hb⟩
  case round =>
    obtain ⟨k, hk, rfl, own, hbk⟩ := hrel
    clear hb
    have hr' := hr.below hbk
    by_cases hlt : k < l.length
    · obtain ⟨b, off, rfl, hc⟩ := hr'.at_ (by simp; omega)
      have c0 := hc k _ (nums_get .u32 l k hlt)
      have hx := HU.out k
      obtain ⟨A2, c2, rfl, r2, q1, q2⟩ := own_rd own
      have ht := putAll_take l k hlt
      obtain ⟨x, hxx⟩ : ∃ x, l.getD k 0 = x := ⟨_, rfl⟩
      rw [hxx] at c0 hx ht
      replace ht := hid ht
      have hll := hid (LT.out k hk)
      clear hc own hxx
      go_wp2_with fail
      refine (put_any (putAll (l.take k)) A2 (4 * k) _ hll.out x _ hx.1 hx.2 (by omega) r2).mono ?_
      rintro e w3 ⟨v3, rfl, o3, k3⟩
      have hb3 := below_tr hbk k3
      have o4 := own_mono o3 hbk.size
      rw [← ht.out] at o4
      clear o3 k3 r2 hr'
      go_wp2
      go_roundw
      case rel => exact ⟨k + 1, by omega, by go_num, o4, hb3⟩
      case measure => simp [intOf]; omega
    · obtain rfl : k = l.length := by omega
      rw [List.take_length] at own
      have hll := hid (LT.out l.length hk)
      rw [List.take_length] at hll
      have hB := hid (putAll_bytes l HU.out)
      obtain ⟨A2, c2, rfl, r2, q1, q2⟩ := own_rd own
      go_wp2_with fail
      go_loop [8] (fun i => ∃ k : Nat, k ≤ l.length ∧ i = .int .i64 k) (fun i => l.length - (intOf i).toNat)
      case atStart => exact ⟨0, Nat.zero_le _, rfl⟩
      case round =>
        obtain ⟨k, hk, rfl⟩ := hrel
        by_cases hlt : k < l.length
        · obtain ⟨b, off, rfl, hc⟩ := hr'.at_ (by simp; omega)
          have c0 := hc k _ (nums_get .u32 l k hlt)
          have hg := getW_putAll l HU.out k hlt
          obtain ⟨x, hxx⟩ : ∃ x, l.getD k 0 = x := ⟨_, rfl⟩
          rw [hxx] at c0 hg
          replace hg := hid hg
          clear hc own hxx
          go_wp2_with fail
          refine (get_any (putAll l) A2 (4 * l.length) _ hll.out _ _ hB.out (by omega) r2).mono ?_
          rintro e w3 ⟨rfl, rfl⟩
          rw [hg.out]
          go_wp2
          go_round
          case rel => exact ⟨k + 1, by omega, by go_num⟩
          case measure => simp [intOf]; omega
        · obtain rfl : k = l.length := by omega
          clear hlt
          have hB2 := hid (bytes_append hB.out (bytes_zeros cu))
          have hg := hid (getW_short (putAll l ++ List.replicate cu 0) l.length (by rw [List.length_append, hll.out, List.length_replicate]; omega))
          have hl2 := hid (show (putAll l ++ List.replicate cu 0).length = 4 * l.length + cu by rw [List.length_append, hll.out, List.length_replicate])
          go_wp2_with (at_builtin; refine wpl_zeros w.heap.size rfl 28 3 5 (.int .u8 0) 1 1 .i64 Try.underlying28 Try.underlying3 (by kernel_rfl) rfl (by omega) (by omega) (by simp [Value.cells, Value.oneCell']) _ (4 * l.length) (nums .u8 (putAll l)) own cu rfl (by omega) hbk.size ?_)
          intro v4 w4 o4 g4
          have hb4 : Below w.heap.size w w4 := hbk.grown g4 hbk.size (own_base own)
          rw [zeros_u8, ← nums_append] at o4
          obtain ⟨A4, c4, rfl, r4, q4⟩ := own_rd o4
          clear o4 g4 own
          go_wp2_with fail
          refine (get_any (putAll l ++ List.replicate cu 0) A4 (4 * l.length + cu) _ hl2.out _ _ hB2.out (by omega) r4).mono ?_
          rintro e w5 ⟨rfl, rfl⟩
          rw [hg.out]
          go_wp2
          go_ret
          exact ⟨rfl, hb4⟩

end Go.Proofs.Ytgamljjoehncbaa
