/-
Numbers in the plain reckoning: what each operation comes to, by name. No condition.
-/
import Derived.Test.YtegalldldcaocaaAbV
namespace Go.Proofs.Ytegalldldcaocaa

section
variable (k k' : IntKind) (a b : Int)
theorem bs_add : binS .add (.int k a) (.int k b) = some (.int k (k.wrap (a + b))) := by simp [binS, intBin, bits]
theorem bs_sub : binS .sub (.int k a) (.int k b) = some (.int k (k.wrap (a - b))) := by simp [binS, intBin, bits]
theorem bs_mul : binS .mul (.int k a) (.int k b) = some (.int k (k.wrap (a * b))) := by simp [binS, intBin, bits]
theorem bs_quo : binS .quo (.int k a) (.int k b) = if b = 0 then none else some (.int k (k.wrap (a.tdiv b))) := by simp [binS, intBin, bits]
theorem bs_rem : binS .rem (.int k a) (.int k b) = if b = 0 then none else some (.int k (a.tmod b)) := by simp [binS, intBin, bits]
theorem bs_and : binS .and (.int k a) (.int k b) = some (.int k (bits .and k a b)) := by simp [binS, intBin, bits]
theorem bs_or : binS .or (.int k a) (.int k b) = some (.int k (bits .or k a b)) := by simp [binS, intBin, bits]
theorem bs_xor : binS .xor (.int k a) (.int k b) = some (.int k (bits .xor k a b)) := by simp [binS, intBin, bits]
theorem bs_andNot : binS .andNot (.int k a) (.int k b) = some (.int k (bits .andNot k a b)) := by simp [binS, intBin, bits]
theorem bs_eql : binS .eql (.int k a) (.int k b) = some (.bool (a == b)) := by simp [binS, intBin, bits]
theorem bs_neq : binS .neq (.int k a) (.int k b) = some (.bool (a != b)) := by simp [binS, intBin, bits]
theorem bs_lss : binS .lss (.int k a) (.int k b) = some (.bool (a < b)) := by simp [binS, intBin, bits]
theorem bs_leq : binS .leq (.int k a) (.int k b) = some (.bool (a ≤ b)) := by simp [binS, intBin, bits]
theorem bs_gtr : binS .gtr (.int k a) (.int k b) = some (.bool (a > b)) := by simp [binS, intBin, bits]
theorem bs_geq : binS .geq (.int k a) (.int k b) = some (.bool (a ≥ b)) := by simp [binS, intBin, bits]
end
theorem bs_seq (a b : ByteArray) : binS .eql (.string a) (.string b) = some (.bool (a.toList == b.toList)) := rfl
theorem bs_sne (a b : ByteArray) : binS .neq (.string a) (.string b) = some (.bool (!(a.toList == b.toList))) := rfl
/-- shifts by a number that is known -/
theorem bs_shl (k k' : IntKind) (a b : Int) : binS .shl (.int k a) (.int k' b) = if b < 0 then none else some (.int k (k.wrap (a * 2 ^ (min b.toNat k.bits)))) := rfl
theorem bs_shr (k k' : IntKind) (a b : Int) : binS .shr (.int k a) (.int k' b) = if b < 0 then none else some (.int k (a.fdiv (2 ^ (min b.toNat k.bits)))) := rfl
theorem range_1 : List.range 1 = [0] := rfl
theorem range_2 : List.range 2 = [0, 1] := rfl
theorem range_3 : List.range 3 = [0, 1, 2] := rfl
theorem range_4 : List.range 4 = [0, 1, 2, 3] := rfl
theorem range_5 : List.range 5 = [0, 1, 2, 3, 4] := rfl
theorem range_6 : List.range 6 = [0, 1, 2, 3, 4, 5] := rfl
theorem range_7 : List.range 7 = [0, 1, 2, 3, 4, 5, 6] := rfl
theorem range_8 : List.range 8 = [0, 1, 2, 3, 4, 5, 6, 7] := rfl
theorem range_9 : List.range 9 = [0, 1, 2, 3, 4, 5, 6, 7, 8] := rfl
theorem range_10 : List.range 10 = [0, 1, 2, 3, 4, 5, 6, 7, 8, 9] := rfl
theorem range_11 : List.range 11 = [0, 1, 2, 3, 4, 5, 6, 7, 8, 9, 10] := rfl
theorem range_12 : List.range 12 = [0, 1, 2, 3, 4, 5, 6, 7, 8, 9, 10, 11] := rfl
theorem range_13 : List.range 13 = [0, 1, 2, 3, 4, 5, 6, 7, 8, 9, 10, 11, 12] := rfl
theorem range_14 : List.range 14 = [0, 1, 2, 3, 4, 5, 6, 7, 8, 9, 10, 11, 12, 13] := rfl
theorem range_15 : List.range 15 = [0, 1, 2, 3, 4, 5, 6, 7, 8, 9, 10, 11, 12, 13, 14] := rfl
theorem range_16 : List.range 16 = [0, 1, 2, 3, 4, 5, 6, 7, 8, 9, 10, 11, 12, 13, 14, 15] := rfl
theorem ba_get (a : Array UInt8) (i : Nat) : (ByteArray.mk a)[i]? = a[i]? := by
  by_cases h : i < a.size
  · rw [getElem?_pos (ByteArray.mk a) i h, getElem?_pos a i h]; rfl
  · rw [getElem?_neg (ByteArray.mk a) i h, getElem?_neg a i h]
theorem ba_size (a : Array UInt8) : (ByteArray.mk a).size = a.size := rfl
/-- whole numbers that are of their kind stay as they are -/
theorem w_i64 {n : Int} (h0 : -9223372036854775808 ≤ n) (h1 : n ≤ 9223372036854775807) : IntKind.i64.wrap n = n := by rw [IntKind.wrap_i64]; omega
theorem w_u32 {n : Int} (h0 : 0 ≤ n) (h1 : n ≤ 4294967295) : IntKind.u32.wrap n = n := by rw [IntKind.wrap_u32]; omega
theorem w_u8 {n : Int} (h0 : 0 ≤ n) (h1 : n ≤ 255) : IntKind.u8.wrap n = n := by rw [IntKind.wrap_u8]; omega
end Go.Proofs.Ytegalldldcaocaa
