/-
Numbers in the plain reckoning: what each operation comes to, by name. No condition.
-/
import Derived.Test.YtbmgaebhcomjaaaAbV
namespace Go.Proofs.Ytbmgaebhcomjaaa
set_option linter.unusedSimpArgs false
set_option linter.unusedVariables false

section
variable (k k' : IntKind) (a b : Int)
theorem bs_add : binS .add (.int k a) (.int k b) = some (.int k (k.wrap (a + b))) := by simp [binS, intBin, bits]
theorem bs_sub : binS .sub (.int k a) (.int k b) = some (.int k (k.wrap (a - b))) := by simp [binS, intBin, bits]
theorem bs_mul : binS .mul (.int k a) (.int k b) = some (.int k (k.wrap (a * b))) := by simp [binS, intBin, bits]
theorem bs_quo : binS .quo (.int k a) (.int k b) = if b = 0 then none else some (.int k (k.wrap (a.tdiv b))) := by simp [binS, intBin, bits]
theorem bs_rem : binS .rem (.int k a) (.int k b) = if b = 0 then none else some (.int k (a.tmod b)) := by simp [binS, intBin, bits]
theorem bs_and : binS .and (.int k a) (.int k b) = some (.int k (bits .and k a b)) := by simp [binS, intBin, bits]
theorem bs_or : binS .or (.int k a) (.int k b) = some (.int k (bits .or k a b)) := by simp [binS, intBin, bits]
theorem bs_xor : binS .xor (.int k a) (.int k b) = some (.int k (bits .xor k a b)) := by simp [binS, intBin, bits]
theorem bs_andNot : binS .andNot (.int k a) (.int k b) = some (.int k (bits .andNot k a b)) := by simp [binS, intBin, bits]
theorem bs_eql : binS .eql (.int k a) (.int k b) = some (.bool (a == b)) := by simp [binS, intBin, bits]
theorem bs_neq : binS .neq (.int k a) (.int k b) = some (.bool (a != b)) := by simp [binS, intBin, bits]
theorem bs_lss : binS .lss (.int k a) (.int k b) = some (.bool (a < b)) := by simp [binS, intBin, bits]
theorem bs_leq : binS .leq (.int k a) (.int k b) = some (.bool (a ≤ b)) := by simp [binS, intBin, bits]
theorem bs_gtr : binS .gtr (.int k a) (.int k b) = some (.bool (a > b)) := by simp [binS, intBin, bits]
theorem bs_geq : binS .geq (.int k a) (.int k b) = some (.bool (a ≥ b)) := by simp [binS, intBin, bits]
end
theorem bs_seq (a b : ByteArray) : binS .eql (.string a) (.string b) = some (.bool (a.toList == b.toList)) := rfl
theorem bs_sne (a b : ByteArray) : binS .neq (.string a) (.string b) = some (.bool (!(a.toList == b.toList))) := rfl
/-- shifts by a number that is known -/
theorem bs_shl (k k' : IntKind) (a b : Int) : binS .shl (.int k a) (.int k' b) = if b < 0 then none else some (.int k (k.wrap (a * 2 ^ (min b.toNat k.bits)))) := rfl
theorem bs_shr (k k' : IntKind) (a b : Int) : binS .shr (.int k a) (.int k' b) = if b < 0 then none else some (.int k (a.fdiv (2 ^ (min b.toNat k.bits)))) := rfl
theorem range_1 : List.range 1 = [0] := rfl
theorem range_2 : List.range 2 = [0, 1] := rfl
theorem range_3 : List.range 3 = [0, 1, 2] := rfl
theorem range_4 : List.range 4 = [0, 1, 2, 3] := rfl
theorem range_5 : List.range 5 = [0, 1, 2, 3, 4] := rfl
theorem range_6 : List.range 6 = [0, 1, 2, 3, 4, 5] := rfl
theorem range_7 : List.range 7 = [0, 1, 2, 3, 4, 5, 6] := rfl
theorem range_8 : List.range 8 = [0, 1, 2, 3, 4, 5, 6, 7] := rfl
theorem range_9 : List.range 9 = [0, 1, 2, 3, 4, 5, 6, 7, 8] := rfl
theorem range_10 : List.range 10 = [0, 1, 2, 3, 4, 5, 6, 7, 8, 9] := rfl
theorem range_11 : List.range 11 = [0, 1, 2, 3, 4, 5, 6, 7, 8, 9, 10] := rfl
theorem range_12 : List.range 12 = [0, 1, 2, 3, 4, 5, 6, 7, 8, 9, 10, 11] := rfl
theorem range_13 : List.range 13 = [0, 1, 2, 3, 4, 5, 6, 7, 8, 9, 10, 11, 12] := rfl
theorem range_14 : List.range 14 = [0, 1, 2, 3, 4, 5, 6, 7, 8, 9, 10, 11, 12, 13] := rfl
theorem range_15 : List.range 15 = [0, 1, 2, 3, 4, 5, 6, 7, 8, 9, 10, 11, 12, 13, 14] := rfl
theorem range_16 : List.range 16 = [0, 1, 2, 3, 4, 5, 6, 7, 8, 9, 10, 11, 12, 13, 14, 15] := rfl
theorem ba_get (a : Array UInt8) (i : Nat) : (ByteArray.mk a)[i]? = a[i]? := by
  by_cases h : i < a.size
  · rw [getElem?_pos (ByteArray.mk a) i h, getElem?_pos a i h]; rfl
  · rw [getElem?_neg (ByteArray.mk a) i h, getElem?_neg a i h]
theorem ba_size (a : Array UInt8) : (ByteArray.mk a).size = a.size := rfl
/-- whole numbers that are of their kind stay as they are -/
theorem w_i64 {n : Int} (h0 : -9223372036854775808 ≤ n) (h1 : n ≤ 9223372036854775807) : IntKind.i64.wrap n = n := by rw [IntKind.wrap_i64]; omega
theorem w_u32 {n : Int} (h0 : 0 ≤ n) (h1 : n ≤ 4294967295) : IntKind.u32.wrap n = n := by rw [IntKind.wrap_u32]; omega
theorem w_u8 {n : Int} (h0 : 0 ≤ n) (h1 : n ≤ 255) : IntKind.u8.wrap n = n := by rw [IntKind.wrap_u8]; omega
/- powers of two; not by definition alone -/
theorem tp_0 : (2 : Int) ^ 0 = 1 := by decide
theorem tp_1 : (2 : Int) ^ 1 = 2 := by decide
theorem tp_2 : (2 : Int) ^ 2 = 4 := by decide
theorem tp_3 : (2 : Int) ^ 3 = 8 := by decide
theorem tp_4 : (2 : Int) ^ 4 = 16 := by decide
theorem tp_5 : (2 : Int) ^ 5 = 32 := by decide
theorem tp_6 : (2 : Int) ^ 6 = 64 := by decide
theorem tp_7 : (2 : Int) ^ 7 = 128 := by decide
theorem tp_8 : (2 : Int) ^ 8 = 256 := by decide
theorem tp_9 : (2 : Int) ^ 9 = 512 := by decide
theorem tp_10 : (2 : Int) ^ 10 = 1024 := by decide
theorem tp_11 : (2 : Int) ^ 11 = 2048 := by decide
theorem tp_12 : (2 : Int) ^ 12 = 4096 := by decide
theorem tp_13 : (2 : Int) ^ 13 = 8192 := by decide
theorem tp_14 : (2 : Int) ^ 14 = 16384 := by decide
theorem tp_15 : (2 : Int) ^ 15 = 32768 := by decide
theorem tp_16 : (2 : Int) ^ 16 = 65536 := by decide
theorem tp_17 : (2 : Int) ^ 17 = 131072 := by decide
theorem tp_18 : (2 : Int) ^ 18 = 262144 := by decide
theorem tp_19 : (2 : Int) ^ 19 = 524288 := by decide
theorem tp_20 : (2 : Int) ^ 20 = 1048576 := by decide
theorem tp_21 : (2 : Int) ^ 21 = 2097152 := by decide
theorem tp_22 : (2 : Int) ^ 22 = 4194304 := by decide
theorem tp_23 : (2 : Int) ^ 23 = 8388608 := by decide
theorem tp_24 : (2 : Int) ^ 24 = 16777216 := by decide
theorem tp_25 : (2 : Int) ^ 25 = 33554432 := by decide
theorem tp_26 : (2 : Int) ^ 26 = 67108864 := by decide
theorem tp_27 : (2 : Int) ^ 27 = 134217728 := by decide
theorem tp_28 : (2 : Int) ^ 28 = 268435456 := by decide
theorem tp_29 : (2 : Int) ^ 29 = 536870912 := by decide
theorem tp_30 : (2 : Int) ^ 30 = 1073741824 := by decide
theorem tp_31 : (2 : Int) ^ 31 = 2147483648 := by decide
theorem tp_32 : (2 : Int) ^ 32 = 4294967296 := by decide
/-- what a called function sees, form by form (expV itself is not unfolded: it stands under mapM) -/
theorem xp_s (st : Nat → Blk) (n : Nat) (v : Value) : expV st (n + 1) (.s v) = some (.s v) := rfl
theorem xp_agg (st : Nat → Blk) (n : Nat) (l : List V) : expV st (n + 1) (.agg l) = (l.mapM (expV st n)).map .agg := rfl
theorem xp_tup (st : Nat → Blk) (n : Nat) (l : List V) : expV st (n + 1) (.tup l) = (l.mapM (expV st n)).map .tup := rfl
theorem xp_lst (st : Nat → Blk) (n : Nat) (fr : Bool) (sz : Nat) (l : List V) : expV st (n + 1) (.lst fr sz l) = some (.lst false sz l) := rfl
theorem xp_sw (st : Nat → Blk) (n : Nat) (b ver m : Nat) : expV st (n + 1) (.sw b ver m) = (rowAt st b ver).map fun (sz, _, l) => .lst false sz l := rfl
theorem xp_sp (st : Nat → Blk) (n : Nat) (b ver sz off len : Nat) : expV st (n + 1) (.sp b ver sz off len) = (rowAt st b ver).bind fun (sz', _, l) => if sz' = sz ∧ off + len ≤ l.length then some (.lst false sz ((l.drop off).take len)) else none := rfl
theorem xp_bp (st : Nat → Blk) (n : Nat) (b ver off len : Nat) : expV st (n + 1) (.bp b ver off len) = (boxAt st b ver).bind fun cs => if off + len ≤ cs.length ∧ ((cs.drop off).take len).all V.scal1 then some (.lst false 1 ((cs.drop off).take len)) else none := rfl
theorem xp_ptr (st : Nat → Blk) (n : Nat) (b ver off : Nat) : expV st (n + 1) (.ptr b ver off) = (boxAt st b ver).bind fun cs => ((cs.drop off).mapM (expV st n)).map .ept := rfl
theorem xp_ept (st : Nat → Blk) (n : Nat) (l : List V) : expV st (n + 1) (.ept l) = some (.ept l) := rfl
theorem xp_fn (st : Nat → Blk) (n : Nat) (f : Nat) (l : List V) : expV st (n + 1) (.fn f l) = (l.mapM (expV st n)).map (.fn f) := rfl
theorem xr_s (st : Nat → Blk) (n : Nat) (v : Value) : resV st (n + 1) (.s v) = some (.s v) := rfl
theorem xr_agg (st : Nat → Blk) (n : Nat) (l : List V) : resV st (n + 1) (.agg l) = (l.mapM (resV st n)).map .agg := rfl
theorem xr_tup (st : Nat → Blk) (n : Nat) (l : List V) : resV st (n + 1) (.tup l) = (l.mapM (resV st n)).map .tup := rfl
theorem xr_lst (st : Nat → Blk) (n : Nat) (fr : Bool) (sz : Nat) (l : List V) : resV st (n + 1) (.lst fr sz l) = if fr then some (.lst true sz l) else none := rfl
theorem xr_sw (st : Nat → Blk) (n : Nat) (b ver m : Nat) : resV st (n + 1) (.sw b ver m) = (rowAt st b ver).map fun (sz, _, l) => .lst true sz l := rfl
theorem xr_sp (st : Nat → Blk) (n : Nat) (b ver sz off len : Nat) : resV st (n + 1) (.sp b ver sz off len) = (rowAt st b ver).bind fun (sz', _, l) => if sz' = sz ∧ off + len ≤ l.length then some (.lst true sz ((l.drop off).take len)) else none := rfl
theorem xr_ept (st : Nat → Blk) (n : Nat) (l : List V) : resV st (n + 1) (.ept l) = none := rfl
theorem xa_s (st : Nat → Blk) (bs : List Nat) (n : Nat) (v : Value) : apartV st bs (n + 1) (.s v) = true := rfl
theorem xa_agg (st : Nat → Blk) (bs : List Nat) (n : Nat) (l : List V) : apartV st bs (n + 1) (.agg l) = l.all (apartV st bs n) := rfl
theorem xa_tup (st : Nat → Blk) (bs : List Nat) (n : Nat) (l : List V) : apartV st bs (n + 1) (.tup l) = l.all (apartV st bs n) := rfl
theorem xa_fn (st : Nat → Blk) (bs : List Nat) (n : Nat) (f : Nat) (l : List V) : apartV st bs (n + 1) (.fn f l) = l.all (apartV st bs n) := rfl
theorem xa_sw (st : Nat → Blk) (bs : List Nat) (n : Nat) (b ver m : Nat) : apartV st bs (n + 1) (.sw b ver m) = !(bs.contains b) := rfl
theorem xa_sp (st : Nat → Blk) (bs : List Nat) (n : Nat) (b ver sz off len : Nat) : apartV st bs (n + 1) (.sp b ver sz off len) = !(bs.contains b) := rfl
theorem xa_bp (st : Nat → Blk) (bs : List Nat) (n : Nat) (b ver off len : Nat) : apartV st bs (n + 1) (.bp b ver off len) = !(bs.contains b) := rfl
theorem xa_ptr (st : Nat → Blk) (bs : List Nat) (n : Nat) (b ver off : Nat) : apartV st bs (n + 1) (.ptr b ver off) = (!(bs.contains b) && (match (st b).c with | .box cs => cs.all (apartV st bs n) | _ => true)) := rfl
theorem xa_lst (st : Nat → Blk) (bs : List Nat) (n : Nat) (fr : Bool) (sz : Nat) (l : List V) : apartV st bs (n + 1) (.lst fr sz l) = true := rfl
theorem xa_ept (st : Nat → Blk) (bs : List Nat) (n : Nat) (l : List V) : apartV st bs (n + 1) (.ept l) = true := rfl
attribute [go_sem high] A_skip A_label A_exit A_ret A_seq A_block A_region A_cond AK_seq_normal AK_seq_exit AK_seq_ret AK_blk_normal AK_blk_ret AK_blk_exit AK_inv_normal AK_inv_exit AK_inv_ret AK_inv2_normal AK_inv2_exit AK_inv2_ret AK_fn AO_nil AO_cons AS_some AS_none AG_any AG_tt AG_ff AG_tf AG_ft AG_none AB_true AB_false stepX_d stepX_l stepX_v asB passV wants stepV stepD readsOk freeOk turns apartL V.ref opV ev binV bs_add bs_sub bs_mul bs_quo bs_rem bs_and bs_or bs_xor bs_andNot bs_eql bs_neq bs_lss bs_leq bs_gtr bs_geq bs_seq bs_sne bs_shl bs_shr upd_apply ups unV pickV_true pickV_false callV argsV argsApart xa_s xa_agg xa_tup xa_fn xa_sw xa_sp xa_bp xa_ptr xa_lst xa_ept apartL V.movable movV movC ownRow nest hang backV makeV ifaceV assertV maxV minV nilEq rowAny putRow V.scal1 V.scalT V.isOwn ownAt xp_s xp_agg xp_tup xp_lst xp_sw xp_sp xp_bp xp_ptr xp_ept xp_fn fieldAddrV loadV storeV boxAt rowAt loadC spl V.cells V.unfr V.unfrL V.one V.clo V.cloL V.scal convV lenV elemsOf asI bnds sliceV indexAddrV indexV appendV buildSliceV fillC eqInts Value.oneCell' withCells init inC resL one resOf ioOf resT xr_s xr_agg xr_tup xr_lst xr_sw xr_sp xr_ept List.nodup_cons List.nodup_nil List.append_nil Nat.lt_irrefl Nat.le_refl Nat.sub_zero Nat.sub_self Int.le_refl Int.lt_irrefl Nat.zero_add Nat.add_zero Nat.zero_mul Nat.not_lt_zero Nat.zero_le Nat.le_zero_eq Nat.zero_lt_succ Nat.lt_add_one if_true if_false Option.bind_some Option.map_some Option.bind_none Option.map_none Option.isSome_some Option.isSome_none Option.isNone_none Option.isNone_some Option.pure_def Option.bind_eq_bind List.mapM_cons List.mapM_nil List.getElem?_cons_zero List.getElem?_cons_succ List.getElem?_nil List.getElem?_toArray Option.getD_some Option.getD_none and_true true_and and_self and_false false_and or_true true_or or_false false_or Bool.false_eq_true Bool.true_eq_false ite_true ite_false List.map_cons List.map_nil List.length_cons List.length_nil List.take_succ_cons List.take_zero List.take_nil List.drop_succ_cons List.drop_zero List.drop_nil List.append_assoc List.cons_append List.nil_append List.append_nil List.all_cons List.all_nil List.head?_cons List.head?_nil List.headD_cons List.headD_nil List.tail_cons List.tail_nil Bool.and_true Bool.true_and Bool.and_false Bool.false_and Bool.or_true Bool.true_or Bool.or_false Bool.false_or Bool.not_true Bool.not_false not_true_eq_false not_false_eq_true Nat.succ_ne_zero List.toList_toArray Option.some.injEq decide_true decide_false decide_eq_true_eq Bool.not_eq_true' List.map_map Function.comp_apply Function.comp_def ne_eq beq_self_eq_true true_implies implies_true List.isEmpty_nil List.isEmpty_cons List.contains_cons List.contains_nil List.elem_cons List.elem_nil IntKind.bits Nat.min_def tp_0 tp_1 tp_2 tp_3 tp_4 tp_5 tp_6 tp_7 tp_8 tp_9 tp_10 tp_11 tp_12 tp_13 tp_14 tp_15 tp_16 tp_17 tp_18 tp_19 tp_20 tp_21 tp_22 tp_23 tp_24 tp_25 tp_26 tp_27 tp_28 tp_29 tp_30 tp_31 tp_32 Value.cells fits range_1 range_2 range_3 range_4 range_5 range_6 range_7 range_8 range_9 range_10 range_11 range_12 range_13 range_14 range_15 range_16 Int.cast_ofNat_Int ba_get ba_size List.size_toArray w_i64 w_u32 w_u8 ge_iff_le gt_iff_lt undef eq_self
end Go.Proofs.Ytbmgaebhcomjaaa
