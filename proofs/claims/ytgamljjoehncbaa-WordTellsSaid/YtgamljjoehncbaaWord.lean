/-
What the functions of package word and their references come to, each for any argument; the bytes read are from 0 to 255.
-/
import Derived.Test.YtgamljjoehncbaaRows
import Derived.Test.YtgamljjoehncbaaLib
import Derived.LoopN
namespace Go.Proofs.Ytgamljjoehncbaa
open Go.RowKit

/-- four bytes as a word -/
def w4 (a b c d : Int) : Int := a + b * 256 + c * 65536 + d * 16777216
def Bytes (xs : List Int) : Prop := ∀ j : Nat, 0 ≤ xs.getD j 0 ∧ xs.getD j 0 < 256
def getW (xs : List Int) (at_ : Int) : Int × Bool :=
  if 0 ≤ at_ ∧ at_ + 4 ≤ xs.length then (w4 (xs.getD at_.toNat 0) (xs.getD (at_.toNat + 1) 0) (xs.getD (at_.toNat + 2) 0) (xs.getD (at_.toNat + 3) 0), true) else (0, false)
def put4 (w : Int) : List Int := [w % 256, w / 256 % 256, w / 65536 % 256, w / 16777216]

theorem ret_tup2 {k : IntKind} {a b : Int} {x y : Bool} (h : a = b) (g : x = y) : Ending.returned (.tuple #[.int k a, .bool x]) = .returned (.tuple #[.int k b, .bool y]) := by rw [h, g]
theorem ret_int {k : IntKind} {a b : Int} (h : a = b) : Ending.returned (.int k a) = .returned (.int k b) := by rw [h]

theorem or_join (x y : Int) (i : Nat) (hx0 : 0 ≤ x) (hx : x < 2 ^ i) (hy0 : 0 ≤ y) (hs : x + y * 2 ^ i < 4294967296) : Go.bits .or .u32 x (y * 2 ^ i) = x + y * 2 ^ i := by
  have hp : 0 ≤ y * 2 ^ i := Int.mul_nonneg hy0 (Int.le_of_lt (Int.pow_pos (by omega)))
  rw [u32_or x (y * 2 ^ i) hx0 (by omega) hp (by omega)]
  obtain ⟨a, rfl⟩ := Int.eq_ofNat_of_zero_le hx0
  obtain ⟨b, rfl⟩ := Int.eq_ofNat_of_zero_le hy0
  have e : ((b : Int) * 2 ^ i).toNat = b * 2 ^ i := by
    have : (b : Int) * 2 ^ i = ((b * 2 ^ i : Nat) : Int) := by push_cast; rfl
    rw [this, Int.toNat_natCast]
  have ha : a < 2 ^ i := by exact_mod_cast hx
  rw [e, Int.toNat_natCast, Nat.or_comm, nat_join i (b * 2 ^ i) a (Nat.mul_mod_left b (2 ^ i)) ha]
  push_cast
  omega

theorem or4 {x0 x1 x2 x3 : Int} (b0 : 0 ≤ x0 ∧ x0 < 256) (b1 : 0 ≤ x1 ∧ x1 < 256) (b2 : 0 ≤ x2 ∧ x2 < 256) (b3 : 0 ≤ x3 ∧ x3 < 256) :
    bits BinOp.or .u32 (bits BinOp.or .u32 (bits BinOp.or .u32 (bits BinOp.or .u32 0 x0) (x1 * 256)) (x2 * 65536)) (x3 * 16777216) = w4 x0 x1 x2 x3 := by
  have h0 : bits BinOp.or .u32 0 x0 = x0 := by
    have := or_join 0 x0 0 (by omega) (by omega) (by omega) (by omega)
    simpa using this
  have h1 := or_join x0 x1 8 (by omega) (by omega) (by omega) (by omega)
  have h2 := or_join (x0 + x1 * 256) x2 16 (by omega) (by omega) (by omega) (by omega)
  have h3 := or_join (x0 + x1 * 256 + x2 * 65536) x3 24 (by omega) (by omega) (by omega) (by omega)
  rw [h0, show (x1 * 256 : Int) = x1 * 2 ^ 8 by omega, h1, show (x2 * 65536 : Int) = x2 * 2 ^ 16 by omega, show (x1 * 2 ^ 8 : Int) = x1 * 256 by omega, h2,
    show (x3 * 16777216 : Int) = x3 * 2 ^ 24 by omega, show (x2 * 2 ^ 16 : Int) = x2 * 65536 by omega, h3]
  unfold w4
  omega
theorem or4' {x0 x1 x2 x3 : Int} (b0 : 0 ≤ x0 ∧ x0 < 256) (b1 : 0 ≤ x1 ∧ x1 < 256) (b2 : 0 ≤ x2 ∧ x2 < 256) (b3 : 0 ≤ x3 ∧ x3 < 256) :
    bits BinOp.or .u32 (bits BinOp.or .u32 (bits BinOp.or .u32 x0 (x1 * 256)) (x2 * 65536)) (x3 * 16777216) = w4 x0 x1 x2 x3 := by
  have h0 : bits BinOp.or .u32 0 x0 = x0 := by
    have := or_join 0 x0 0 (by omega) (by omega) (by omega) (by omega)
    simpa using this
  have := or4 b0 b1 b2 b3
  rwa [h0] at this

theorem of_any (n : Int) (w : World) : Calls Try.prog 12 #[.int .i64 n] w fun e w' => e = .returned (.int .u32 (n % 4294967296)) ∧ w = w' := by
  go_enter Try.func12, Try.ntmps12
  go_wp2
  go_ret
  exact ⟨rfl, rfl⟩

theorem int_any (n : Int) (h0 : 0 ≤ n) (h1 : n < 4294967296) (w : World) : Calls Try.prog 13 #[.int .u32 n] w fun e w' => e = .returned (.int .i64 (wrap32 n)) ∧ w = w' := by
  go_enter Try.func13, Try.ntmps13
  go_wp2
  go_ret
  exact ⟨ret_int (by unfold wrap64 wrap32; omega), rfl⟩

theorem refInt_any (n : Int) (h0 : 0 ≤ n) (h1 : n < 4294967296) (w : World) : Calls Try.prog 16 #[.int .u32 n] w fun e w' => e = .returned (.int .i64 (wrap32 n)) ∧ w = w' := by
  go_enter Try.func16, Try.ntmps16
  go_wp2
  · have h : 2147483648 ≤ n := by assumption
    go_ret
    exact ⟨ret_int (by unfold wrap32; omega), rfl⟩
  · have h : n < 2147483648 := by assumption
    go_ret
    exact ⟨ret_int (by unfold wrap32; omega), rfl⟩

theorem get_any (xs : List Int) (A : Option Addr) (n c : Nat) (hn : xs.length = n) (at_ : Int) (w : World) (hB : Bytes xs) (hm : n ≤ 9223372036854775807) (hr : Rd w A (nums .u8 xs)) :
    Calls Try.prog 14 #[.slice A n c, .int .i64 at_] w fun e w' => e = .returned (.tuple #[.int .u32 (getW xs at_).1, .bool (getW xs at_).2]) ∧ w = w' := by
  subst hn
  by_cases h : 0 ≤ at_ ∧ at_ + 4 ≤ xs.length
  · obtain ⟨k, rfl⟩ := Int.eq_ofNat_of_zero_le h.1
    obtain ⟨b, off, rfl, hc⟩ := hr.at_ (by simp; omega)
    have c0 := hc k _ (nums_get .u8 xs k (by omega))
    have c1 := hc (k + 1) _ (nums_get .u8 xs (k + 1) (by omega))
    have c2 := hc (k + 2) _ (nums_get .u8 xs (k + 2) (by omega))
    have c3 := hc (k + 3) _ (nums_get .u8 xs (k + 3) (by omega))
    have e : getW xs k = (w4 (xs.getD k 0) (xs.getD (k + 1) 0) (xs.getD (k + 2) 0) (xs.getD (k + 3) 0), true) := by unfold getW; rw [if_pos h]; rfl
    have b0 := hB k
    have b1 := hB (k + 1)
    have b2 := hB (k + 2)
    have b3 := hB (k + 3)
    rw [e]
    clear e hc
    generalize xs.getD k 0 = x0 at *
    generalize xs.getD (k + 1) 0 = x1 at *
    generalize xs.getD (k + 2) 0 = x2 at *
    generalize xs.getD (k + 3) 0 = x3 at *
    obtain ⟨h, h'⟩ := h
    go_enter Try.func14, Try.ntmps14
    go_wp2
    refine wp_loop_rounds 5 ?_
    rw [rounds_succ]
    go_wp2
    rw [rounds_succ]
    go_wp2
    rw [rounds_succ]
    go_wp2
    rw [rounds_succ]
    go_wp2
    rw [rounds_succ]
    go_wp2
    go_ret2
    exact ⟨ret_tup2 (or4 b0 b1 b2 b3) rfl, rfl⟩
  · have e : getW xs at_ = (0, false) := by unfold getW; rw [if_neg h]
    rw [e]
    by_cases h0 : at_ < 0
    · clear e h
      go_enter Try.func14, Try.ntmps14
      go_wp2
      go_ret2
      exact ⟨rfl, rfl⟩
    · have h1 : ((xs.length : Int) - 4 < at_) := by omega
      have h2 : 0 ≤ at_ := by omega
      clear e h h0
      go_enter Try.func14, Try.ntmps14
      go_wp2
      go_ret2
      exact ⟨rfl, rfl⟩

theorem refGet_any (xs : List Int) (A : Option Addr) (n c : Nat) (hn : xs.length = n) (at_ : Int) (w : World) (hB : Bytes xs) (hm : n ≤ 9223372036854775807) (hr : Rd w A (nums .u8 xs)) :
    Calls Try.prog 15 #[.slice A n c, .int .i64 at_] w fun e w' => e = .returned (.tuple #[.int .u32 (getW xs at_).1, .bool (getW xs at_).2]) ∧ Drw w w' := by
  subst hn
  by_cases h : 0 ≤ at_ ∧ at_ + 4 ≤ xs.length
  · obtain ⟨k, rfl⟩ := Int.eq_ofNat_of_zero_le h.1
    obtain ⟨b, off, rfl, hc⟩ := hr.at_ (by simp; omega)
    have c0 := hc k _ (nums_get .u8 xs k (by omega))
    have c1 := hc (k + 1) _ (nums_get .u8 xs (k + 1) (by omega))
    have c2 := hc (k + 2) _ (nums_get .u8 xs (k + 2) (by omega))
    have c3 := hc (k + 3) _ (nums_get .u8 xs (k + 3) (by omega))
    have e : getW xs k = (w4 (xs.getD k 0) (xs.getD (k + 1) 0) (xs.getD (k + 2) 0) (xs.getD (k + 3) 0), true) := by unfold getW; rw [if_pos h]; rfl
    have b0 := hB k
    have b1 := hB (k + 1)
    have b2 := hB (k + 2)
    have b3 := hB (k + 3)
    rw [e]
    clear e hc
    generalize xs.getD k 0 = x0 at *
    generalize xs.getD (k + 1) 0 = x1 at *
    generalize xs.getD (k + 2) 0 = x2 at *
    generalize xs.getD (k + 3) 0 = x3 at *
    obtain ⟨h, h'⟩ := h
    have h1 : (4 : Int) ≤ xs.length := by omega
    go_enter Try.func15, Try.ntmps15
    go_wp2
    go_quiet (fail)
    go_wp2
    go_ret2
    exact ⟨ret_tup2 (or4' b0 b1 b2 b3) rfl, ⟨nq, rfl⟩⟩
  · have e : getW xs at_ = (0, false) := by unfold getW; rw [if_neg h]
    rw [e]
    by_cases h0 : at_ < 0
    · clear e h
      go_enter Try.func15, Try.ntmps15
      go_wp2
      go_ret2
      exact ⟨rfl, Drw.refl _⟩
    · have h2 : 0 ≤ at_ := by omega
      by_cases h1 : (4 : Int) ≤ xs.length
      · have h3 : ((xs.length : Int) - 4 < at_) := by omega
        clear e h h0
        go_enter Try.func15, Try.ntmps15
        go_wp2
        go_ret2
        exact ⟨rfl, Drw.refl _⟩
      · have h3 : ((xs.length : Int) < 4) := by omega
        clear e h h0 h1
        go_enter Try.func15, Try.ntmps15
        go_wp2
        go_ret2
        exact ⟨rfl, Drw.refl _⟩

theorem put_any (xs : List Int) (A : Option Addr) (n c : Nat) (hn : xs.length = n) (x : Int) (w : World) (h0 : 0 ≤ x) (h1 : x < 4294967296) (hm : n + 4 ≤ 140737488355328) (hr : Rd w A (nums .u8 xs)) :
    Calls Try.prog 17 #[.slice A n c, .int .u32 x] w fun e w' => ∃ v, e = .returned v ∧ w'.ownsRow w.heap.size 5 1 v (n + 4) (nums .u8 (xs ++ put4 x)) ∧ Below w.heap.size w w' := by
  subst hn
  go_enter Try.func17, Try.ntmps17
  go_wp2_with (at_builtin; refine wpl_append w.heap.size rfl 28 5 (.int .u8 0) 1 1 Try.underlying28 (by kernel_rfl) rfl (by omega) (by omega) _ 0 [] (own_nil _ _ _ _) A xs.length c (nums .u8 xs) rfl hr (by simp) (nums_one _ _) (by omega) (Nat.le_refl _) ?_)
  intro v1 w1 o1 g1 b1
  have hb : Below w.heap.size w w1 := (Below.refl _ _).grown g1 (Nat.le_refl _) (by intro k hk; simp [Value.ownBlock] at hk)
  have hsz := hb.size
  clear g1 b1
  go_wp2_with (at_builtin; refine wpl_append w.heap.size rfl 28 5 (.int .u8 0) 1 1 Try.underlying28 (by kernel_rfl) rfl (by omega) (by omega) _ xs.length (nums .u8 xs) (o1.alloc _) (some ⟨w1.heap.size, 0, none⟩) 4 4 _ rfl (rd_new _ _ _) (by simp) ?_ (by omega) ?_ ?_)
  · exact nums_one .u8 (put4 x)
  · simp; omega
  intro v2 w2 o2 g2 b2
  have hb2 : Below w.heap.size w w2 := ((hb.alloc hb.size _)).grown g2 (by simp; omega) (own_base o1)
  have o3 : w2.ownsRow w.heap.size 5 1 v2 (xs.length + 4) (nums .u8 (xs ++ put4 x)) := by rw [nums_append]; exact o2
  clear g2 b2 o2
  go_wp2
  go_ret
  exact ⟨v2, rfl, o3, hb2⟩

theorem refPut_any (base : Nat) (v : Value) (n : Nat) (xs : List Int) (x : Int) (w : World) (h0 : 0 ≤ x) (h1 : x < 4294967296) (hm : n + 4 ≤ 140737488355328) (ho : w.ownsRow base 5 1 v n (nums .u8 xs)) (hbase : base ≤ w.heap.size) :
    Calls Try.prog 18 #[v, .int .u32 x] w fun e w' => ∃ v', e = .returned v' ∧ w'.ownsRow base 5 1 v' (n + 4) (nums .u8 (xs ++ put4 x)) ∧ Below base w w' ∧ w.grownBy w' v.ownBlock := by
  go_enter Try.func18, Try.ntmps18
  go_wp2_with (at_builtin; refine wpl_append base rfl 28 5 (.int .u8 0) 1 1 Try.underlying28 (by kernel_rfl) rfl (by omega) (by omega) _ n (nums .u8 xs) (ho.alloc _) (some ⟨w.heap.size, 0, none⟩) 4 4 _ rfl (rd_new _ _ _) (by simp) ?_ (by omega) ?_ ?_)
  · exact nums_one .u8 (put4 x)
  · simp; omega
  intro v2 w2 o2 g2 b2
  have hg : w.grownBy w2 v.ownBlock := World.grownBy.trans (World.grownBy_alloc w _ _) g2
  have hb2 : Below base w w2 := (Below.refl _ _).grown hg hbase (own_base ho)
  have o3 : w2.ownsRow base 5 1 v2 (n + 4) (nums .u8 (xs ++ put4 x)) := by rw [nums_append]; exact o2
  clear g2 b2 o2
  go_wp2
  go_ret
  exact ⟨v2, rfl, o3, hb2, hg⟩

theorem alive1_any (w : World) : Calls Try.prog 11 #[] w fun e w' => e = .returned (.bool true) ∧ Below w.heap.size w w' := by
  have e1 : getW [1, 2, 0, 0] 0 = (513, true) := by decide
  have hg := fun (w : World) hr => get_any [1, 2, 0, 0] (some ⟨w.heap.size, 0, none⟩) 4 4 rfl 0 (w.alloc (.cells #[.int .u8 1, .int .u8 2, .int .u8 0, .int .u8 0] 5)) (by intro j; rcases j with _ | _ | _ | _ | j <;> simp) (by omega) hr
  rw [e1] at hg
  have hi := fun w => int_any 4294967295 (by omega) (by omega) w
  rw [show wrap32 4294967295 = -1 by unfold wrap32; decide] at hi
  have ho := fun w => of_any (-1) w
  rw [show (-1 : Int) % 4294967296 = 4294967295 by decide] at ho
  have Hg := hid hg
  have Hi := hid hi
  have Ho := hid ho
  clear hg hi ho e1
  go_enter Try.func11, Try.ntmps11
  go_wp2_with fail
  refine (Hg.out w (rd_new _ (nums .u8 [1, 2, 0, 0]) _)).mono ?_
  rintro e w1 ⟨rfl, rfl⟩
  go_wp2_with fail
  refine (Hi.out _).mono ?_
  rintro e w1 ⟨rfl, rfl⟩
  go_wp2_with fail
  refine (Ho.out _).mono ?_
  rintro e w1 ⟨rfl, rfl⟩
  go_wp2
  go_ret
  exact ⟨rfl, below_al (Below.refl _ _) _⟩

end Go.Proofs.Ytgamljjoehncbaa
