/-
Each law of chapter 1 answers true, whatever its arguments are.
-/
import Derived.Test.YtgamljjoehncbaaWord
namespace Go.Proofs.Ytgamljjoehncbaa
open Go.RowKit

set_option maxHeartbeats 1000000 in
theorem wordSigns_any (a n t : Int) (w : World) (h0 : 0 ≤ a) (h1 : a < 4294967296) :
    Calls Try.prog 3 #[.int .u32 a, .int .i64 n, .int .i64 t] w fun e w' => e = .returned (.bool true) ∧ Below w.heap.size w w' := by
  by_cases c : n < -2147483648 ∨ 2147483647 < n ∨ t < -1000 ∨ 1000 < t
  · by_cases c1 : n < -2147483648
    · clear c
      go_enter Try.func3, Try.ntmps3
      go_wp2_with fail
      refine (alive1_any _).mono ?_
      rintro e w1 ⟨rfl, hb⟩
      go_wp2
      go_ret
      exact ⟨rfl, hb⟩
    by_cases c2 : 2147483647 < n
    · clear c
      go_enter Try.func3, Try.ntmps3
      go_wp2_with fail
      refine (alive1_any _).mono ?_
      rintro e w1 ⟨rfl, hb⟩
      go_wp2
      go_ret
      exact ⟨rfl, hb⟩
    by_cases c3 : t < -1000
    · clear c
      go_enter Try.func3, Try.ntmps3
      go_wp2_with fail
      refine (alive1_any _).mono ?_
      rintro e w1 ⟨rfl, hb⟩
      go_wp2
      go_ret
      exact ⟨rfl, hb⟩
    have c4 : 1000 < t := by omega
    clear c
    go_enter Try.func3, Try.ntmps3
    go_wp2_with fail
    refine (alive1_any _).mono ?_
    rintro e w1 ⟨rfl, hb⟩
    go_wp2
    go_ret
    exact ⟨rfl, hb⟩
  · have c1 : ¬ n < -2147483648 := by omega
    have c2 : ¬ 2147483647 < n := by omega
    have c3 : ¬ t < -1000 := by omega
    have c4 : ¬ 1000 < t := by omega
    have e1 : wrap32 a % 4294967296 = a := by unfold wrap32; omega
    have e2 : wrap32 (n % 4294967296) = n := by unfold wrap32; omega
    have e3 : (n + t * 4294967296) % 4294967296 = n % 4294967296 := by omega
    have H1 := hid e1
    have H2 := hid e2
    have H3 := hid e3
    clear c e1 e2 e3
    go_enter Try.func3, Try.ntmps3
    go_wp2_with fail
    refine (alive1_any _).mono ?_
    rintro e w1 ⟨rfl, hb⟩
    go_wp2_with fail
    refine (int_any a h0 h1 _).mono ?_
    rintro e w2 ⟨rfl, rfl⟩
    go_wp2_with fail
    refine (of_any _ _).mono ?_
    rintro e w2 ⟨rfl, rfl⟩
    rw [H1.out]
    go_wp2_with fail
    refine (of_any _ _).mono ?_
    rintro e w2 ⟨rfl, rfl⟩
    go_wp2_with fail
    refine (int_any _ (by omega) (by omega) _).mono ?_
    rintro e w2 ⟨rfl, rfl⟩
    rw [H2.out]
    go_wp2_with fail
    refine (of_any _ _).mono ?_
    rintro e w2 ⟨rfl, rfl⟩
    rw [H3.out]
    go_wp2_with fail
    refine (of_any _ _).mono ?_
    rintro e w2 ⟨rfl, rfl⟩
    go_wp2
    go_ret
    exact ⟨rfl, hb⟩

theorem mul_words (a b : Int) (ha : 0 ≤ a) (hb : 0 ≤ b) (ha1 : a < 4294967296) (hb1 : b < 4294967296) : wrap64 (wrap32 a * wrap32 b) % 4294967296 = a * b % 4294967296 := by
  unfold wrap64
  have h1 : -2147483648 ≤ wrap32 a ∧ wrap32 a ≤ 2147483647 := by unfold wrap32; omega
  have h2 : -2147483648 ≤ wrap32 b ∧ wrap32 b ≤ 2147483647 := by unfold wrap32; omega
  have e1 : ∃ k, wrap32 a = a + 4294967296 * k := ⟨if a < 2147483648 then 0 else -1, by unfold wrap32; split <;> omega⟩
  have e2 : ∃ k, wrap32 b = b + 4294967296 * k := ⟨if b < 2147483648 then 0 else -1, by unfold wrap32; split <;> omega⟩
  obtain ⟨k, hk⟩ := e1
  obtain ⟨l, hl⟩ := e2
  have e3 : wrap32 a * wrap32 b % 4294967296 = a * b % 4294967296 := by
    rw [hk, hl, Int.mul_emod, Int.add_mul_emod_self_left, Int.add_mul_emod_self_left, ← Int.mul_emod]
  omega

set_option maxHeartbeats 2000000 in
theorem wordBytes_any (x y : Int) (w : World) (h0 : 0 ≤ x) (h1 : x < 4294967296) (g0 : 0 ≤ y) (g1 : y < 4294967296) :
    Calls Try.prog 6 #[.int .u32 x, .int .u32 y] w fun e w' => e = .returned (.bool true) ∧ Below w.heap.size w w' := by
  have E1 : (wrap64 (wrap32 x + wrap32 y) % 4294967296 == (x + y) % 4294967296) = true := by rw [beq_iff_eq]; unfold wrap64 wrap32; omega
  have E2 : (wrap64 (wrap32 x * wrap32 y) % 4294967296 == x * y % 4294967296) = true := by rw [beq_iff_eq]; exact mul_words x y h0 g0 h1 g1
  go_enter Try.func6, Try.ntmps6
  go_wp2_with fail
  refine (alive1_any _).mono ?_
  rintro e w1 ⟨rfl, hb⟩
  go_wp2_with fail
  refine (put_any [] none 0 0 rfl x _ h0 h1 (by omega) (Rd.nil _ _)).mono ?_
  rintro e w2 ⟨v2, rfl, o2, k2⟩
  obtain ⟨A2, c2, rfl, r2, _⟩ := own_rd o2
  obtain ⟨b, off, rfl, hc⟩ := r2.at_ (by simp [put4])
  have hb2 := below_tr hb k2
  have d0 : w2.cell? ⟨b, off, none⟩ = some (.int .u8 (x % 256)) := hc 0 (.int .u8 (x % 256)) rfl
  have d1 := hc 1 (.int .u8 (x / 256 % 256)) rfl
  have d2 := hc 2 (.int .u8 (x / 65536 % 256)) rfl
  have d3 := hc 3 (.int .u8 (x / 16777216)) rfl
  clear hc o2 r2 k2 hb
  go_wp2_with fail
  refine wp_loop_rounds 5 ?_
  rw [rounds_succ]
  go_wp2
  rw [rounds_succ]
  go_wp2
  rw [rounds_succ]
  go_wp2
  rw [rounds_succ]
  go_wp2
  rw [rounds_succ]
  go_wp2_with (first | (go_at_call 12; refine (of_any _ _).mono ?_; rintro e w3 ⟨rfl, rfl⟩) | (go_at_call 13; refine (int_any _ (by assumption) (by assumption) _).mono ?_; rintro e w3 ⟨rfl, rfl⟩))
  go_ret
  exact ⟨rfl, hb2⟩

/-- the bytes of some words -/
def putAll : List Int → List Int
  | [] => []
  | x :: r => put4 x ++ putAll r
theorem putAll_len (l : List Int) : (putAll l).length = 4 * l.length := by
  induction l with
  | nil => rfl
  | cons x r ih => simp only [putAll, put4, List.length_append, List.length_cons, List.length_nil, ih]; omega
theorem putAll_snoc (l : List Int) (x : Int) : putAll (l ++ [x]) = putAll l ++ put4 x := by
  induction l with
  | nil => simp [putAll]
  | cons y r ih => simp [putAll, ih]
theorem putAll_take (l : List Int) (k : Nat) (h : k < l.length) : putAll (l.take (k + 1)) = putAll (l.take k) ++ put4 (l.getD k 0) := by
  rw [List.take_succ_eq_append_getElem h, putAll_snoc]
  simp [List.getD_eq_getElem?_getD, List.getElem?_eq_getElem h]
def U32 (l : List Int) : Prop := ∀ j : Nat, 0 ≤ l.getD j 0 ∧ l.getD j 0 < 4294967296
theorem getD_append_lt {l r : List Int} {j : Nat} (h : j < l.length) : (l ++ r).getD j 0 = l.getD j 0 := by
  simp [List.getD_eq_getElem?_getD, List.getElem?_append_left h]
theorem getD_append_ge {l r : List Int} {j : Nat} (h : l.length ≤ j) : (l ++ r).getD j 0 = r.getD (j - l.length) 0 := by
  simp [List.getD_eq_getElem?_getD, List.getElem?_append_right h]
theorem U32.tail {x : Int} {r : List Int} (h : U32 (x :: r)) : U32 r := fun j => by have := h (j + 1); simpa using this
theorem putAll_bytes (l : List Int) (hl : U32 l) : Bytes (putAll l) := by
  induction l with
  | nil => intro j; simp [putAll]
  | cons x r ih =>
    have hx := hl 0
    simp only [List.getD_cons_zero] at hx
    intro j
    rcases j with _ | _ | _ | _ | j
    · simp only [putAll, put4, List.cons_append, List.getD_cons_zero]; omega
    · simp only [putAll, put4, List.cons_append, List.getD_cons_zero, List.getD_cons_succ]; omega
    · simp only [putAll, put4, List.cons_append, List.getD_cons_zero, List.getD_cons_succ]; omega
    · simp only [putAll, put4, List.cons_append, List.getD_cons_zero, List.getD_cons_succ]; omega
    · simp only [putAll, put4, List.cons_append, List.nil_append, List.getD_cons_succ]
      exact ih hl.tail j
theorem putAll_at (l : List Int) (hl : U32 l) (k : Nat) (h : k < l.length) (d : Nat) (hd : d < 4) : (putAll l).getD (4 * k + d) 0 = (put4 (l.getD k 0)).getD d 0 := by
  induction l generalizing k with
  | nil => simp at h
  | cons x r ih =>
    rcases k with _ | k
    · simp only [putAll, Nat.mul_zero, Nat.zero_add, List.getD_cons_zero]
      exact getD_append_lt (by simp [put4]; omega)
    · simp only [putAll, List.getD_cons_succ]
      rw [getD_append_ge (by simp [put4]; omega)]
      have e : 4 * (k + 1) + d - (put4 x).length = 4 * k + d := by simp [put4]; omega
      rw [e]
      exact ih hl.tail k (by simpa using h)
theorem getW_putAll (l : List Int) (hl : U32 l) (k : Nat) (h : k < l.length) : getW (putAll l) (4 * (k : Int)) = (l.getD k 0, true) := by
  unfold getW
  have hlen := putAll_len l
  rw [if_pos (by omega)]
  have e : (4 * (k : Int)).toNat = 4 * k := by omega
  have a0 := putAll_at l hl k h 0 (by omega)
  have a1 := putAll_at l hl k h 1 (by omega)
  have a2 := putAll_at l hl k h 2 (by omega)
  have a3 := putAll_at l hl k h 3 (by omega)
  have hk := hl k
  rw [e, a1, a2, a3]
  rw [Nat.add_zero] at a0
  rw [a0]
  simp only [put4, List.getD_cons_zero, List.getD_cons_succ, w4]
  congr 1
  omega

theorem u32_of {xs : List Int} (h : ∀ x ∈ xs, (Lit.int .u32 x).wf = true) : U32 xs := fun j => by
  by_cases hj : j < xs.length
  · have := wf_u32 (h xs[j] (List.getElem_mem hj))
    simpa [List.getD_eq_getElem?_getD, List.getElem?_eq_getElem hj] using this
  · simp [List.getD_eq_getElem?_getD, List.getElem?_eq_none (show xs.length ≤ j by omega)]
theorem bytes_of {xs : List Int} (h : ∀ x ∈ xs, (Lit.int .u8 x).wf = true) : Bytes xs := fun j => by
  by_cases hj : j < xs.length
  · have := wf_u8 (h xs[j] (List.getElem_mem hj))
    simpa [List.getD_eq_getElem?_getD, List.getElem?_eq_getElem hj] using this
  · simp [List.getD_eq_getElem?_getD, List.getElem?_eq_none (show xs.length ≤ j by omega)]

end Go.Proofs.Ytgamljjoehncbaa
