/-
Words read from bytes, and the reference's instructions, by the plain reckoning. No condition.
-/
import Derived.Test.YtecckfhmgnlmnaaImgB
namespace Go.Proofs.Ytecckfhmgnlmnaa
set_option linter.unusedSimpArgs false

def getW (b0 b1 b2 b3 : Int) : Int := b0 + b1 * 256 + b2 * 65536 + b3 * 16777216
theorem or_comm' (x y : Int) : bits .or .u32 x y = bits .or .u32 y x := by unfold bits; simp only [BitVec.or_comm]
theorem or_lo (x y : Int) (i : Nat) (hy0 : 0 ≤ y) (hy : y % 2 ^ i = 0) (hx0 : 0 ≤ x) (hx : x < 2 ^ i) (hs : x + y < 4294967296) : bits BinOp.or .u32 x y = x + y := by
  rw [or_comm', or_hi y x i hy0 hy hx0 hx (by omega), Int.add_comm]
theorem get_bits {b0 b1 b2 b3 : Int} (h0 : 0 ≤ b0 ∧ b0 ≤ 255) (h1 : 0 ≤ b1 ∧ b1 ≤ 255) (h2 : 0 ≤ b2 ∧ b2 ≤ 255) (h3 : 0 ≤ b3 ∧ b3 ≤ 255) :
    bits .or .u32 (bits .or .u32 (bits .or .u32 b0 (b1 * 256)) (b2 * 65536)) (b3 * 16777216) = getW b0 b1 b2 b3 := by
  rw [or_lo b0 (b1 * 256) 8 (by omega) (by omega) (by omega) (by omega) (by omega),
    or_lo _ (b2 * 65536) 16 (by omega) (by omega) (by omega) (by omega) (by omega),
    or_lo _ (b3 * 16777216) 24 (by omega) (by omega) (by omega) (by omega) (by omega)]
  rfl

def byte (b : Int) : Bool := decide (0 ≤ b) && decide (b ≤ 255)
def getT (l : List Int) (n : Int) : V := if n < 0 ∨ n > l.length - 4 then .tup [.s (.int .u32 0), .s (.bool false)]
  else .tup [.s (.int .u32 (getW (l.getD n.toNat 0) (l.getD (n.toNat + 1) 0) (l.getD (n.toNat + 2) 0) (l.getD (n.toNat + 3) 0))), .s (.bool true)]
def spGet : Spec := ⟨[], fun xs => match xs with
  | [x, .s (.int .i64 n)] => (lOf 1 x).bind fun l => (l.mapM u8Of).bind fun l => if l.all byte = true ∧ l.length ≤ 1000000000 ∧ -1000000000 ≤ n ∧ n ≤ 1000000000 then some (getT l n) else none
  | _ => none⟩

/-- a round of Get: which bytes are in the word -/
def getI (l : List Int) (k : Nat) (b0 b1 b2 b3 : Int) (s : S) : Prop :=
  s.env 0 = .lst false 1 (l.map u8v) ∧ s.env 1 = .s (.int .i64 k) ∧
  ((s.env 17 = .s (.int .i64 0) ∧ s.env 6 = .s (.int .u32 0)) ∨ (s.env 17 = .s (.int .i64 1) ∧ s.env 6 = .s (.int .u32 b0)) ∨ (s.env 17 = .s (.int .i64 2) ∧ s.env 6 = .s (.int .u32 (bits .or .u32 b0 (b1 * 256))))
  ∨ (s.env 17 = .s (.int .i64 3) ∧ s.env 6 = .s (.int .u32 (bits .or .u32 (bits .or .u32 b0 (b1 * 256)) (b2 * 65536)))) ∨ (s.env 17 = .s (.int .i64 4) ∧ s.env 6 = .s (.int .u32 (bits .or .u32 (bits .or .u32 (bits .or .u32 b0 (b1 * 256)) (b2 * 65536)) (b3 * 16777216)))))

set_option maxHeartbeats 1000000 in
theorem get_impl : Impl Try.prog 22 spGet := by
  refine impl_walk2 mixed cImg0_ok eqT_ok Try.func22 rfl Try.ntmps22 (by kernel_rfl) ?_
  intro xs r h
  unfold spGet at h
  simp only at h
  (try split at h) <;> try (cases (show none = some r from h); done)
  rename_i x n
  obtain ⟨l, hl, h3⟩ := Option.bind_eq_some_iff.1 h
  obtain ⟨l2, h2, h4⟩ := Option.bind_eq_some_iff.1 h3
  have e := mapM_eq (fun _ _ => u8Of_eq) h2
  clear h h3
  subst e
  split at h4
  case isFalse => cases h4
  rename_i hc
  cases h4
  obtain ⟨hb, hlen, hn0, hn1⟩ := hc
  refine ⟨_, lst_args hl _, by simp, ?_⟩
  have w0 : IntKind.i64.wrap ((l2.length : Int) - 4) = l2.length - 4 := w_i64 (by omega) (by omega)
  simp only [go_sem, Nat.reduceEqDiff, Nat.reduceLT, Nat.reduceLeDiff, Nat.reduceAdd, Nat.reduceSub, Nat.reduceMul, Nat.reduceBEq, ↓reduceIte, reduceCtorEq, Int.reduceLT, Int.reduceToNat, UInt8.reduceToNat, Int.reduceLE, Int.reduceBEq, Int.reduceBNe, Int.reduceAdd, Int.reduceSub, Int.reduceMul, Int.reduceNeg, w0, List.length_map]
  repeat' (first | (refine AG_of ?_ ?_ <;> intro h <;> simp only [go_sem, Nat.reduceEqDiff, Nat.reduceLT, Nat.reduceLeDiff, Nat.reduceAdd, Nat.reduceSub, Nat.reduceMul, Nat.reduceBEq, ↓reduceIte, reduceCtorEq, Int.reduceLT, Int.reduceToNat, UInt8.reduceToNat, Int.reduceLE, Int.reduceBEq, Int.reduceBNe, Int.reduceAdd, Int.reduceSub, Int.reduceMul, Int.reduceNeg, w0, List.length_map, h]) | (refine AB_of ?_ ?_ <;> intro h <;> simp only [go_sem, Nat.reduceEqDiff, Nat.reduceLT, Nat.reduceLeDiff, Nat.reduceAdd, Nat.reduceSub, Nat.reduceMul, Nat.reduceBEq, ↓reduceIte, reduceCtorEq, Int.reduceLT, Int.reduceToNat, UInt8.reduceToNat, Int.reduceLE, Int.reduceBEq, Int.reduceBNe, Int.reduceAdd, Int.reduceSub, Int.reduceMul, Int.reduceNeg, w0, List.length_map, h]) | (refine A_draw_of [] [] (by kernel_rfl) ?_ <;> simp only [go_sem, Nat.reduceEqDiff, Nat.reduceLT, Nat.reduceLeDiff, Nat.reduceAdd, Nat.reduceSub, Nat.reduceMul, Nat.reduceBEq, ↓reduceIte, reduceCtorEq, Int.reduceLT, Int.reduceToNat, UInt8.reduceToNat, Int.reduceLE, Int.reduceBEq, Int.reduceBNe, Int.reduceAdd, Int.reduceSub, Int.reduceMul, Int.reduceNeg, w0, List.length_map]))
  all_goals try (refine fin_ret ?_; simp only [resOf, Try.results22, Try.ntmps22, go_sem, Nat.reduceEqDiff, Nat.reduceLT, Nat.reduceLeDiff, Nat.reduceAdd, Nat.reduceSub, Nat.reduceMul, Nat.reduceBEq, ↓reduceIte, reduceCtorEq, Int.reduceLT, Int.reduceToNat, UInt8.reduceToNat, Int.reduceLE, Int.reduceBEq, Int.reduceBNe, Int.reduceAdd, Int.reduceSub, Int.reduceMul, Int.reduceNeg]; simp_all [getT]; done)
  rename_i ha
  simp only [decide_eq_false_iff_not, Int.not_lt] at ha h
  obtain ⟨k, rfl⟩ := Int.eq_ofNat_of_zero_le ha
  have hk : k + 4 ≤ l2.length := by omega
  have hby : ∀ i, i < l2.length → ∃ b, l2[i]? = some b ∧ l2.getD i 0 = b ∧ 0 ≤ b ∧ b ≤ 255 := fun i hi => by
    have := List.all_eq_true.1 hb l2[i] (List.getElem_mem hi)
    simp only [byte, Bool.and_eq_true, decide_eq_true_eq] at this
    exact ⟨l2[i], List.getElem?_eq_getElem hi, by simp [List.getD_eq_getElem?_getD, List.getElem?_eq_getElem hi], this⟩
  obtain ⟨b0, q0, d0, b00, b01⟩ := hby k (by omega)
  obtain ⟨b1, q1, d1, b10, b11⟩ := hby (k + 1) (by omega)
  obtain ⟨b2, q2, d2, b20, b21⟩ := hby (k + 2) (by omega)
  obtain ⟨b3, q3, d3, b30, b31⟩ := hby (k + 3) (by omega)
  have n0 : IntKind.i64.wrap ((k : Int) + 0) = k := by rw [w_i64 (by omega) (by omega)]; omega
  have n1 : IntKind.i64.wrap ((k : Int) + 1) = (k + 1 : Nat) := by rw [w_i64 (by omega) (by omega)]; omega
  have n2 : IntKind.i64.wrap ((k : Int) + 2) = (k + 2 : Nat) := by rw [w_i64 (by omega) (by omega)]; omega
  have n3 : IntKind.i64.wrap ((k : Int) + 3) = (k + 3 : Nat) := by rw [w_i64 (by omega) (by omega)]; omega
  have z0 := Int.natCast_nonneg k
  have z1 := Int.natCast_nonneg (k + 1)
  have z2 := Int.natCast_nonneg (k + 2)
  have z3 := Int.natCast_nonneg (k + 3)
  have c0 : IntKind.u32.wrap b0 = b0 := w_u32 b00 (by omega)
  have c1 : IntKind.u32.wrap b1 = b1 := w_u32 b10 (by omega)
  have c2 : IntKind.u32.wrap b2 = b2 := w_u32 b20 (by omega)
  have c3 : IntKind.u32.wrap b3 = b3 := w_u32 b30 (by omega)
  have s0 : IntKind.u32.wrap (b0 * 1) = b0 := by rw [w_u32 (by omega) (by omega)]; omega
  have s1 : IntKind.u32.wrap (b1 * 256) = b1 * 256 := w_u32 (by omega) (by omega)
  have s2 : IntKind.u32.wrap (b2 * 65536) = b2 * 65536 := w_u32 (by omega) (by omega)
  have s3 : IntKind.u32.wrap (b3 * 16777216) = b3 * 16777216 := w_u32 (by omega) (by omega)
  have o0 : bits .or .u32 0 b0 = b0 := by rw [or_comm', or_lo b0 0 8 (by omega) (by omega) (by omega) (by omega) (by omega)]; omega
  refine A_loop (getI l2 k b0 b1 b2 b3) (fun s => (4 - numOf (s.env 17)).toNat) ?_ ?_
  · simp [getI, upd, init, V.unfr]
  intro s hs
  obtain ⟨e0, e1, hcase⟩ := hs
  rcases hcase with ⟨e17, e6⟩ | ⟨e17, e6⟩ | ⟨e17, e6⟩ | ⟨e17, e6⟩ | ⟨e17, e6⟩
  all_goals
  simp only [go_sem, Nat.reduceEqDiff, Nat.reduceLT, Nat.reduceLeDiff, Nat.reduceAdd, Nat.reduceSub, Nat.reduceMul, Nat.reduceBEq, ↓reduceIte, reduceCtorEq, Int.reduceLT, Int.reduceToNat, UInt8.reduceToNat, Int.reduceLE, Int.reduceBEq, Int.reduceBNe, Int.reduceAdd, Int.reduceSub, Int.reduceMul, Int.reduceNeg, e0, e1, e17, e6, n0, n1, n2, n3, z0, z1, z2, z3, c0, c1, c2, c3, s0, s1, s2, s3, o0, q0, q1, q2, q3, Int.toNat_natCast, List.getElem?_map, u8v]
  repeat' (first | (refine AG_of ?_ ?_ <;> intro h <;> simp only [go_sem, Nat.reduceEqDiff, Nat.reduceLT, Nat.reduceLeDiff, Nat.reduceAdd, Nat.reduceSub, Nat.reduceMul, Nat.reduceBEq, ↓reduceIte, reduceCtorEq, Int.reduceLT, Int.reduceToNat, UInt8.reduceToNat, Int.reduceLE, Int.reduceBEq, Int.reduceBNe, Int.reduceAdd, Int.reduceSub, Int.reduceMul, Int.reduceNeg, e0, e1, e17, e6, n0, n1, n2, n3, z0, z1, z2, z3, c0, c1, c2, c3, s0, s1, s2, s3, o0, q0, q1, q2, q3, Int.toNat_natCast, List.getElem?_map, u8v, h]) | (refine AB_of ?_ ?_ <;> intro h <;> simp only [go_sem, Nat.reduceEqDiff, Nat.reduceLT, Nat.reduceLeDiff, Nat.reduceAdd, Nat.reduceSub, Nat.reduceMul, Nat.reduceBEq, ↓reduceIte, reduceCtorEq, Int.reduceLT, Int.reduceToNat, UInt8.reduceToNat, Int.reduceLE, Int.reduceBEq, Int.reduceBNe, Int.reduceAdd, Int.reduceSub, Int.reduceMul, Int.reduceNeg, e0, e1, e17, e6, n0, n1, n2, n3, z0, z1, z2, z3, c0, c1, c2, c3, s0, s1, s2, s3, o0, q0, q1, q2, q3, Int.toNat_natCast, List.getElem?_map, u8v, h]) | (refine A_draw_of [] [] (by kernel_rfl) ?_ <;> simp only [go_sem, Nat.reduceEqDiff, Nat.reduceLT, Nat.reduceLeDiff, Nat.reduceAdd, Nat.reduceSub, Nat.reduceMul, Nat.reduceBEq, ↓reduceIte, reduceCtorEq, Int.reduceLT, Int.reduceToNat, UInt8.reduceToNat, Int.reduceLE, Int.reduceBEq, Int.reduceBNe, Int.reduceAdd, Int.reduceSub, Int.reduceMul, Int.reduceNeg, e0, e1, e17, e6, n0, n1, n2, n3, z0, z1, z2, z3, c0, c1, c2, c3, s0, s1, s2, s3, o0, q0, q1, q2, q3, Int.toNat_natCast, List.getElem?_map, u8v]))
  all_goals try (refine ⟨⟨by simp [upd, e0], by simp [upd, e1], by simp [upd]⟩, by simp [upd, numOf, e17]⟩)
  all_goals (first | refine fin_ret ?_ | refine fin_normal ?_)
  all_goals simp only [resOf, Try.results22, Try.ntmps22, go_sem, Nat.reduceEqDiff, Nat.reduceLT, Nat.reduceLeDiff, Nat.reduceAdd, Nat.reduceSub, Nat.reduceMul, Nat.reduceBEq, ↓reduceIte, reduceCtorEq, Int.reduceLT, Int.reduceToNat, UInt8.reduceToNat, Int.reduceLE, Int.reduceBEq, Int.reduceBNe, Int.reduceAdd, Int.reduceSub, Int.reduceMul, Int.reduceNeg]
  all_goals
    rw [get_bits ⟨b00, b01⟩ ⟨b10, b11⟩ ⟨b20, b21⟩ ⟨b30, b31⟩]
    unfold getT
    rw [if_neg (by omega)]
    simp only [Int.toNat_natCast, d0, d1, d2, d3]
end Go.Proofs.Ytecckfhmgnlmnaa
