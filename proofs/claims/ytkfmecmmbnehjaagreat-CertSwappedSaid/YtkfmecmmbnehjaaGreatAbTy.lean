/-
Facts about the types of this program, as the kernel reckons them. No condition.
-/
import Derived.Test.YtkfmecmmbnehjaaGreatProg
import Derived.Test.YtkfmecmmbnehjaaGreatAbE
import Derived.KernelRfl
namespace Go.Proofs.YtkfmecmmbnehjaaGreat

theorem szOf_3 : szOf Tryz.prog 3 = some 1 := by kernel_rfl
theorem isAgg_3 : isAggB Tryz.prog 3 = some false := by kernel_rfl
theorem bytesOf_3 : bytesOf Tryz.prog 3 = some 8 := by kernel_rfl
theorem zeroOf_3 : zeroOf Tryz.prog 3 = some (.int .i64 0) := by kernel_rfl
theorem zOk_3 : zOk Tryz.prog 3 1 = true := by kernel_rfl
theorem zSome_3 : (zeroOf Tryz.prog 3).isSome = true := by kernel_rfl
theorem isBoolT_3 : isBoolT Tryz.prog 3 = false := by kernel_rfl
theorem isPtrT_3 : isPtrT Tryz.prog 3 = false := by kernel_rfl
theorem isU8T_3 : isU8T Tryz.prog 3 = false := by kernel_rfl
theorem szOf_4 : szOf Tryz.prog 4 = some 1 := by kernel_rfl
theorem isAgg_4 : isAggB Tryz.prog 4 = some false := by kernel_rfl
theorem bytesOf_4 : bytesOf Tryz.prog 4 = some 1 := by kernel_rfl
theorem zeroOf_4 : zeroOf Tryz.prog 4 = some (.bool false) := by kernel_rfl
theorem zOk_4 : zOk Tryz.prog 4 1 = true := by kernel_rfl
theorem zSome_4 : (zeroOf Tryz.prog 4).isSome = true := by kernel_rfl
theorem isBoolT_4 : isBoolT Tryz.prog 4 = true := by kernel_rfl
theorem isPtrT_4 : isPtrT Tryz.prog 4 = false := by kernel_rfl
theorem isU8T_4 : isU8T Tryz.prog 4 = false := by kernel_rfl
theorem szOf_5 : szOf Tryz.prog 5 = some 1 := by kernel_rfl
theorem isAgg_5 : isAggB Tryz.prog 5 = some false := by kernel_rfl
theorem bytesOf_5 : bytesOf Tryz.prog 5 = some 1 := by kernel_rfl
theorem zOk_5 : zOk Tryz.prog 5 1 = true := by kernel_rfl
theorem zSome_5 : (zeroOf Tryz.prog 5).isSome = true := by kernel_rfl
theorem isBoolT_5 : isBoolT Tryz.prog 5 = false := by kernel_rfl
theorem isPtrT_5 : isPtrT Tryz.prog 5 = false := by kernel_rfl
theorem isU8T_5 : isU8T Tryz.prog 5 = true := by kernel_rfl
theorem szOf_22 : szOf Tryz.prog 22 = some 1 := by kernel_rfl
theorem isAgg_22 : isAggB Tryz.prog 22 = some false := by kernel_rfl
theorem bytesOf_22 : bytesOf Tryz.prog 22 = some 24 := by kernel_rfl
theorem zOk_22 : zOk Tryz.prog 22 1 = true := by kernel_rfl
theorem zSome_22 : (zeroOf Tryz.prog 22).isSome = true := by kernel_rfl
theorem isBoolT_22 : isBoolT Tryz.prog 22 = false := by kernel_rfl
theorem isPtrT_22 : isPtrT Tryz.prog 22 = false := by kernel_rfl
theorem isU8T_22 : isU8T Tryz.prog 22 = false := by kernel_rfl
theorem szOf_23 : szOf Tryz.prog 23 = some 6 := by kernel_rfl
theorem isAgg_23 : isAggB Tryz.prog 23 = some true := by kernel_rfl
theorem bytesOf_23 : bytesOf Tryz.prog 23 = some 80 := by kernel_rfl
theorem zOk_23 : zOk Tryz.prog 23 6 = true := by kernel_rfl
theorem zSome_23 : (zeroOf Tryz.prog 23).isSome = true := by kernel_rfl
theorem isBoolT_23 : isBoolT Tryz.prog 23 = false := by kernel_rfl
theorem isPtrT_23 : isPtrT Tryz.prog 23 = false := by kernel_rfl
theorem isU8T_23 : isU8T Tryz.prog 23 = false := by kernel_rfl
theorem szOf_24 : szOf Tryz.prog 24 = some 6 := by kernel_rfl
theorem isAgg_24 : isAggB Tryz.prog 24 = some true := by kernel_rfl
theorem bytesOf_24 : bytesOf Tryz.prog 24 = some 80 := by kernel_rfl
theorem zeroOf_24 : zeroOf Tryz.prog 24 = some (.agg #[.int .i64 0, .int .i64 0, .int .i64 0, .int .i64 0, .slice none 0 0, .slice none 0 0]) := by kernel_rfl
theorem zOk_24 : zOk Tryz.prog 24 6 = true := by kernel_rfl
theorem zSome_24 : (zeroOf Tryz.prog 24).isSome = true := by kernel_rfl
theorem isBoolT_24 : isBoolT Tryz.prog 24 = false := by kernel_rfl
theorem isPtrT_24 : isPtrT Tryz.prog 24 = false := by kernel_rfl
theorem isU8T_24 : isU8T Tryz.prog 24 = false := by kernel_rfl
theorem szOf_25 : szOf Tryz.prog 25 = some 1 := by kernel_rfl
theorem isAgg_25 : isAggB Tryz.prog 25 = some false := by kernel_rfl
theorem bytesOf_25 : bytesOf Tryz.prog 25 = some 24 := by kernel_rfl
theorem zOk_25 : zOk Tryz.prog 25 1 = true := by kernel_rfl
theorem zSome_25 : (zeroOf Tryz.prog 25).isSome = true := by kernel_rfl
theorem isBoolT_25 : isBoolT Tryz.prog 25 = false := by kernel_rfl
theorem isPtrT_25 : isPtrT Tryz.prog 25 = false := by kernel_rfl
theorem isU8T_25 : isU8T Tryz.prog 25 = false := by kernel_rfl
theorem szOf_26 : szOf Tryz.prog 26 = some 1 := by kernel_rfl
theorem isAgg_26 : isAggB Tryz.prog 26 = some false := by kernel_rfl
theorem bytesOf_26 : bytesOf Tryz.prog 26 = some 24 := by kernel_rfl
theorem zOk_26 : zOk Tryz.prog 26 1 = true := by kernel_rfl
theorem zSome_26 : (zeroOf Tryz.prog 26).isSome = true := by kernel_rfl
theorem isBoolT_26 : isBoolT Tryz.prog 26 = false := by kernel_rfl
theorem isPtrT_26 : isPtrT Tryz.prog 26 = false := by kernel_rfl
theorem isU8T_26 : isU8T Tryz.prog 26 = false := by kernel_rfl
theorem szOf_27 : szOf Tryz.prog 27 = some 3 := by kernel_rfl
theorem isAgg_27 : isAggB Tryz.prog 27 = some true := by kernel_rfl
theorem bytesOf_27 : bytesOf Tryz.prog 27 = some 56 := by kernel_rfl
theorem zOk_27 : zOk Tryz.prog 27 3 = true := by kernel_rfl
theorem zSome_27 : (zeroOf Tryz.prog 27).isSome = true := by kernel_rfl
theorem isBoolT_27 : isBoolT Tryz.prog 27 = false := by kernel_rfl
theorem isPtrT_27 : isPtrT Tryz.prog 27 = false := by kernel_rfl
theorem isU8T_27 : isU8T Tryz.prog 27 = false := by kernel_rfl
theorem szOf_28 : szOf Tryz.prog 28 = some 3 := by kernel_rfl
theorem isAgg_28 : isAggB Tryz.prog 28 = some true := by kernel_rfl
theorem bytesOf_28 : bytesOf Tryz.prog 28 = some 56 := by kernel_rfl
theorem zeroOf_28 : zeroOf Tryz.prog 28 = some (.agg #[.slice none 0 0, .int .i64 0, .slice none 0 0]) := by kernel_rfl
theorem zOk_28 : zOk Tryz.prog 28 3 = true := by kernel_rfl
theorem zSome_28 : (zeroOf Tryz.prog 28).isSome = true := by kernel_rfl
theorem isBoolT_28 : isBoolT Tryz.prog 28 = false := by kernel_rfl
theorem isPtrT_28 : isPtrT Tryz.prog 28 = false := by kernel_rfl
theorem isU8T_28 : isU8T Tryz.prog 28 = false := by kernel_rfl
theorem szOf_29 : szOf Tryz.prog 29 = some 1 := by kernel_rfl
theorem isAgg_29 : isAggB Tryz.prog 29 = some false := by kernel_rfl
theorem bytesOf_29 : bytesOf Tryz.prog 29 = some 24 := by kernel_rfl
theorem zOk_29 : zOk Tryz.prog 29 1 = true := by kernel_rfl
theorem zSome_29 : (zeroOf Tryz.prog 29).isSome = true := by kernel_rfl
theorem isBoolT_29 : isBoolT Tryz.prog 29 = false := by kernel_rfl
theorem isPtrT_29 : isPtrT Tryz.prog 29 = false := by kernel_rfl
theorem isU8T_29 : isU8T Tryz.prog 29 = false := by kernel_rfl
theorem szOf_30 : szOf Tryz.prog 30 = some 16 := by kernel_rfl
theorem isAgg_30 : isAggB Tryz.prog 30 = some true := by kernel_rfl
theorem bytesOf_30 : bytesOf Tryz.prog 30 = some 128 := by kernel_rfl
theorem zeroOf_30 : zeroOf Tryz.prog 30 = some (.agg #[.int .i64 0, .int .i64 0, .int .i64 0, .int .i64 0, .int .i64 0, .int .i64 0, .int .i64 0, .int .i64 0, .int .i64 0, .int .i64 0, .int .i64 0, .int .i64 0, .int .i64 0, .int .i64 0, .int .i64 0, .int .i64 0]) := by kernel_rfl
theorem zOk_30 : zOk Tryz.prog 30 16 = true := by kernel_rfl
theorem zSome_30 : (zeroOf Tryz.prog 30).isSome = true := by kernel_rfl
theorem isBoolT_30 : isBoolT Tryz.prog 30 = false := by kernel_rfl
theorem isPtrT_30 : isPtrT Tryz.prog 30 = false := by kernel_rfl
theorem isU8T_30 : isU8T Tryz.prog 30 = false := by kernel_rfl
theorem szOf_31 : szOf Tryz.prog 31 = some 17 := by kernel_rfl
theorem isAgg_31 : isAggB Tryz.prog 31 = some true := by kernel_rfl
theorem bytesOf_31 : bytesOf Tryz.prog 31 = some 152 := by kernel_rfl
theorem zOk_31 : zOk Tryz.prog 31 17 = true := by kernel_rfl
theorem zSome_31 : (zeroOf Tryz.prog 31).isSome = true := by kernel_rfl
theorem isBoolT_31 : isBoolT Tryz.prog 31 = false := by kernel_rfl
theorem isPtrT_31 : isPtrT Tryz.prog 31 = false := by kernel_rfl
theorem isU8T_31 : isU8T Tryz.prog 31 = false := by kernel_rfl
theorem szOf_32 : szOf Tryz.prog 32 = some 17 := by kernel_rfl
theorem isAgg_32 : isAggB Tryz.prog 32 = some true := by kernel_rfl
theorem bytesOf_32 : bytesOf Tryz.prog 32 = some 152 := by kernel_rfl
theorem zeroOf_32 : zeroOf Tryz.prog 32 = some (.agg #[.slice none 0 0, .int .i64 0, .int .i64 0, .int .i64 0, .int .i64 0, .int .i64 0, .int .i64 0, .int .i64 0, .int .i64 0, .int .i64 0, .int .i64 0, .int .i64 0, .int .i64 0, .int .i64 0, .int .i64 0, .int .i64 0, .int .i64 0]) := by kernel_rfl
theorem zOk_32 : zOk Tryz.prog 32 17 = true := by kernel_rfl
theorem zSome_32 : (zeroOf Tryz.prog 32).isSome = true := by kernel_rfl
theorem isBoolT_32 : isBoolT Tryz.prog 32 = false := by kernel_rfl
theorem isPtrT_32 : isPtrT Tryz.prog 32 = false := by kernel_rfl
theorem isU8T_32 : isU8T Tryz.prog 32 = false := by kernel_rfl
theorem szOf_36 : szOf Tryz.prog 36 = some 12 := by kernel_rfl
theorem isAgg_36 : isAggB Tryz.prog 36 = some true := by kernel_rfl
theorem bytesOf_36 : bytesOf Tryz.prog 36 = some 96 := by kernel_rfl
theorem zeroOf_36 : zeroOf Tryz.prog 36 = some (.agg #[.int .i64 0, .int .i64 0, .int .i64 0, .int .i64 0, .int .i64 0, .int .i64 0, .int .i64 0, .int .i64 0, .int .i64 0, .int .i64 0, .int .i64 0, .int .i64 0]) := by kernel_rfl
theorem zOk_36 : zOk Tryz.prog 36 12 = true := by kernel_rfl
theorem zSome_36 : (zeroOf Tryz.prog 36).isSome = true := by kernel_rfl
theorem isBoolT_36 : isBoolT Tryz.prog 36 = false := by kernel_rfl
theorem isPtrT_36 : isPtrT Tryz.prog 36 = false := by kernel_rfl
theorem isU8T_36 : isU8T Tryz.prog 36 = false := by kernel_rfl
theorem szOf_37 : szOf Tryz.prog 37 = some 24 := by kernel_rfl
theorem isAgg_37 : isAggB Tryz.prog 37 = some true := by kernel_rfl
theorem bytesOf_37 : bytesOf Tryz.prog 37 = some 192 := by kernel_rfl
theorem zeroOf_37 : zeroOf Tryz.prog 37 = some (.agg #[.int .i64 0, .int .i64 0, .int .i64 0, .int .i64 0, .int .i64 0, .int .i64 0, .int .i64 0, .int .i64 0, .int .i64 0, .int .i64 0, .int .i64 0, .int .i64 0, .int .i64 0, .int .i64 0, .int .i64 0, .int .i64 0, .int .i64 0, .int .i64 0, .int .i64 0, .int .i64 0, .int .i64 0, .int .i64 0, .int .i64 0, .int .i64 0]) := by kernel_rfl
theorem zOk_37 : zOk Tryz.prog 37 24 = true := by kernel_rfl
theorem zSome_37 : (zeroOf Tryz.prog 37).isSome = true := by kernel_rfl
theorem isBoolT_37 : isBoolT Tryz.prog 37 = false := by kernel_rfl
theorem isPtrT_37 : isPtrT Tryz.prog 37 = false := by kernel_rfl
theorem isU8T_37 : isU8T Tryz.prog 37 = false := by kernel_rfl
theorem szOf_48 : szOf Tryz.prog 48 = some 5 := by kernel_rfl
theorem isAgg_48 : isAggB Tryz.prog 48 = some true := by kernel_rfl
theorem bytesOf_48 : bytesOf Tryz.prog 48 = some 40 := by kernel_rfl
theorem zOk_48 : zOk Tryz.prog 48 5 = true := by kernel_rfl
theorem zSome_48 : (zeroOf Tryz.prog 48).isSome = true := by kernel_rfl
theorem isBoolT_48 : isBoolT Tryz.prog 48 = false := by kernel_rfl
theorem isPtrT_48 : isPtrT Tryz.prog 48 = false := by kernel_rfl
theorem isU8T_48 : isU8T Tryz.prog 48 = false := by kernel_rfl
theorem szOf_49 : szOf Tryz.prog 49 = some 5 := by kernel_rfl
theorem isAgg_49 : isAggB Tryz.prog 49 = some true := by kernel_rfl
theorem bytesOf_49 : bytesOf Tryz.prog 49 = some 40 := by kernel_rfl
theorem zeroOf_49 : zeroOf Tryz.prog 49 = some (.agg #[.int .i64 0, .int .i64 0, .int .i64 0, .int .i64 0, .int .i64 0]) := by kernel_rfl
theorem zOk_49 : zOk Tryz.prog 49 5 = true := by kernel_rfl
theorem zSome_49 : (zeroOf Tryz.prog 49).isSome = true := by kernel_rfl
theorem isBoolT_49 : isBoolT Tryz.prog 49 = false := by kernel_rfl
theorem isPtrT_49 : isPtrT Tryz.prog 49 = false := by kernel_rfl
theorem isU8T_49 : isU8T Tryz.prog 49 = false := by kernel_rfl
theorem szOf_50 : szOf Tryz.prog 50 = some 9 := by kernel_rfl
theorem isAgg_50 : isAggB Tryz.prog 50 = some true := by kernel_rfl
theorem bytesOf_50 : bytesOf Tryz.prog 50 = some 72 := by kernel_rfl
theorem zOk_50 : zOk Tryz.prog 50 9 = true := by kernel_rfl
theorem zSome_50 : (zeroOf Tryz.prog 50).isSome = true := by kernel_rfl
theorem isBoolT_50 : isBoolT Tryz.prog 50 = false := by kernel_rfl
theorem isPtrT_50 : isPtrT Tryz.prog 50 = false := by kernel_rfl
theorem isU8T_50 : isU8T Tryz.prog 50 = false := by kernel_rfl
theorem szOf_51 : szOf Tryz.prog 51 = some 9 := by kernel_rfl
theorem isAgg_51 : isAggB Tryz.prog 51 = some true := by kernel_rfl
theorem bytesOf_51 : bytesOf Tryz.prog 51 = some 72 := by kernel_rfl
theorem zeroOf_51 : zeroOf Tryz.prog 51 = some (.agg #[.int .i64 0, .int .i64 0, .int .i64 0, .int .i64 0, .int .i64 0, .int .i64 0, .int .i64 0, .int .i64 0, .int .i64 0]) := by kernel_rfl
theorem zOk_51 : zOk Tryz.prog 51 9 = true := by kernel_rfl
theorem zSome_51 : (zeroOf Tryz.prog 51).isSome = true := by kernel_rfl
theorem isBoolT_51 : isBoolT Tryz.prog 51 = false := by kernel_rfl
theorem isPtrT_51 : isPtrT Tryz.prog 51 = false := by kernel_rfl
theorem isU8T_51 : isU8T Tryz.prog 51 = false := by kernel_rfl
theorem szOf_59 : szOf Tryz.prog 59 = some 1 := by kernel_rfl
theorem isAgg_59 : isAggB Tryz.prog 59 = some false := by kernel_rfl
theorem bytesOf_59 : bytesOf Tryz.prog 59 = some 24 := by kernel_rfl
theorem zOk_59 : zOk Tryz.prog 59 1 = true := by kernel_rfl
theorem zSome_59 : (zeroOf Tryz.prog 59).isSome = true := by kernel_rfl
theorem isBoolT_59 : isBoolT Tryz.prog 59 = false := by kernel_rfl
theorem isPtrT_59 : isPtrT Tryz.prog 59 = false := by kernel_rfl
theorem isU8T_59 : isU8T Tryz.prog 59 = false := by kernel_rfl
theorem szOf_61 : szOf Tryz.prog 61 = some 1 := by kernel_rfl
theorem isAgg_61 : isAggB Tryz.prog 61 = some false := by kernel_rfl
theorem bytesOf_61 : bytesOf Tryz.prog 61 = some 8 := by kernel_rfl
theorem zOk_61 : zOk Tryz.prog 61 1 = true := by kernel_rfl
theorem zSome_61 : (zeroOf Tryz.prog 61).isSome = true := by kernel_rfl
theorem isBoolT_61 : isBoolT Tryz.prog 61 = false := by kernel_rfl
theorem isPtrT_61 : isPtrT Tryz.prog 61 = false := by kernel_rfl
theorem isU8T_61 : isU8T Tryz.prog 61 = false := by kernel_rfl
theorem szOf_65 : szOf Tryz.prog 65 = some 1 := by kernel_rfl
theorem isAgg_65 : isAggB Tryz.prog 65 = some false := by kernel_rfl
theorem bytesOf_65 : bytesOf Tryz.prog 65 = some 24 := by kernel_rfl
theorem zOk_65 : zOk Tryz.prog 65 1 = true := by kernel_rfl
theorem zSome_65 : (zeroOf Tryz.prog 65).isSome = true := by kernel_rfl
theorem isBoolT_65 : isBoolT Tryz.prog 65 = false := by kernel_rfl
theorem isPtrT_65 : isPtrT Tryz.prog 65 = false := by kernel_rfl
theorem isU8T_65 : isU8T Tryz.prog 65 = false := by kernel_rfl
theorem szOf_72 : szOf Tryz.prog 72 = some 1 := by kernel_rfl
theorem isAgg_72 : isAggB Tryz.prog 72 = some false := by kernel_rfl
theorem bytesOf_72 : bytesOf Tryz.prog 72 = some 8 := by kernel_rfl
theorem zOk_72 : zOk Tryz.prog 72 1 = true := by kernel_rfl
theorem zSome_72 : (zeroOf Tryz.prog 72).isSome = true := by kernel_rfl
theorem isBoolT_72 : isBoolT Tryz.prog 72 = false := by kernel_rfl
theorem isPtrT_72 : isPtrT Tryz.prog 72 = false := by kernel_rfl
theorem isU8T_72 : isU8T Tryz.prog 72 = false := by kernel_rfl
theorem szOf_90 : szOf Tryz.prog 90 = some 1 := by kernel_rfl
theorem isAgg_90 : isAggB Tryz.prog 90 = some false := by kernel_rfl
theorem bytesOf_90 : bytesOf Tryz.prog 90 = some 8 := by kernel_rfl
theorem zOk_90 : zOk Tryz.prog 90 1 = true := by kernel_rfl
theorem zSome_90 : (zeroOf Tryz.prog 90).isSome = true := by kernel_rfl
theorem isBoolT_90 : isBoolT Tryz.prog 90 = false := by kernel_rfl
theorem isPtrT_90 : isPtrT Tryz.prog 90 = true := by kernel_rfl
theorem isU8T_90 : isU8T Tryz.prog 90 = false := by kernel_rfl
theorem szOf_91 : szOf Tryz.prog 91 = some 3 := by kernel_rfl
theorem isAgg_91 : isAggB Tryz.prog 91 = some true := by kernel_rfl
theorem bytesOf_91 : bytesOf Tryz.prog 91 = some 40 := by kernel_rfl
theorem zOk_91 : zOk Tryz.prog 91 3 = true := by kernel_rfl
theorem zSome_91 : (zeroOf Tryz.prog 91).isSome = true := by kernel_rfl
theorem isBoolT_91 : isBoolT Tryz.prog 91 = false := by kernel_rfl
theorem isPtrT_91 : isPtrT Tryz.prog 91 = false := by kernel_rfl
theorem isU8T_91 : isU8T Tryz.prog 91 = false := by kernel_rfl
theorem szOf_92 : szOf Tryz.prog 92 = some 3 := by kernel_rfl
theorem isAgg_92 : isAggB Tryz.prog 92 = some true := by kernel_rfl
theorem bytesOf_92 : bytesOf Tryz.prog 92 = some 40 := by kernel_rfl
theorem zOk_92 : zOk Tryz.prog 92 3 = true := by kernel_rfl
theorem zSome_92 : (zeroOf Tryz.prog 92).isSome = true := by kernel_rfl
theorem isBoolT_92 : isBoolT Tryz.prog 92 = false := by kernel_rfl
theorem isPtrT_92 : isPtrT Tryz.prog 92 = false := by kernel_rfl
theorem isU8T_92 : isU8T Tryz.prog 92 = false := by kernel_rfl
theorem szOf_108 : szOf Tryz.prog 108 = some 1 := by kernel_rfl
theorem isAgg_108 : isAggB Tryz.prog 108 = some false := by kernel_rfl
theorem bytesOf_108 : bytesOf Tryz.prog 108 = some 8 := by kernel_rfl
theorem zOk_108 : zOk Tryz.prog 108 1 = true := by kernel_rfl
theorem zSome_108 : (zeroOf Tryz.prog 108).isSome = true := by kernel_rfl
theorem isBoolT_108 : isBoolT Tryz.prog 108 = false := by kernel_rfl
theorem isPtrT_108 : isPtrT Tryz.prog 108 = true := by kernel_rfl
theorem isU8T_108 : isU8T Tryz.prog 108 = false := by kernel_rfl
theorem szOf_109 : szOf Tryz.prog 109 = some 8 := by kernel_rfl
theorem isAgg_109 : isAggB Tryz.prog 109 = some true := by kernel_rfl
theorem bytesOf_109 : bytesOf Tryz.prog 109 = some 80 := by kernel_rfl
theorem zOk_109 : zOk Tryz.prog 109 8 = true := by kernel_rfl
theorem zSome_109 : (zeroOf Tryz.prog 109).isSome = true := by kernel_rfl
theorem isBoolT_109 : isBoolT Tryz.prog 109 = false := by kernel_rfl
theorem isPtrT_109 : isPtrT Tryz.prog 109 = false := by kernel_rfl
theorem isU8T_109 : isU8T Tryz.prog 109 = false := by kernel_rfl
theorem szOf_110 : szOf Tryz.prog 110 = some 8 := by kernel_rfl
theorem isAgg_110 : isAggB Tryz.prog 110 = some true := by kernel_rfl
theorem bytesOf_110 : bytesOf Tryz.prog 110 = some 80 := by kernel_rfl
theorem zOk_110 : zOk Tryz.prog 110 8 = true := by kernel_rfl
theorem zSome_110 : (zeroOf Tryz.prog 110).isSome = true := by kernel_rfl
theorem isBoolT_110 : isBoolT Tryz.prog 110 = false := by kernel_rfl
theorem isPtrT_110 : isPtrT Tryz.prog 110 = false := by kernel_rfl
theorem isU8T_110 : isU8T Tryz.prog 110 = false := by kernel_rfl
theorem szOf_114 : szOf Tryz.prog 114 = some 1 := by kernel_rfl
theorem isAgg_114 : isAggB Tryz.prog 114 = some false := by kernel_rfl
theorem bytesOf_114 : bytesOf Tryz.prog 114 = some 24 := by kernel_rfl
theorem zOk_114 : zOk Tryz.prog 114 1 = true := by kernel_rfl
theorem zSome_114 : (zeroOf Tryz.prog 114).isSome = true := by kernel_rfl
theorem isBoolT_114 : isBoolT Tryz.prog 114 = false := by kernel_rfl
theorem isPtrT_114 : isPtrT Tryz.prog 114 = false := by kernel_rfl
theorem isU8T_114 : isU8T Tryz.prog 114 = false := by kernel_rfl
theorem szOf_127 : szOf Tryz.prog 127 = some 1 := by kernel_rfl
theorem isAgg_127 : isAggB Tryz.prog 127 = some false := by kernel_rfl
theorem bytesOf_127 : bytesOf Tryz.prog 127 = some 8 := by kernel_rfl
theorem zOk_127 : zOk Tryz.prog 127 1 = true := by kernel_rfl
theorem zSome_127 : (zeroOf Tryz.prog 127).isSome = true := by kernel_rfl
theorem isBoolT_127 : isBoolT Tryz.prog 127 = false := by kernel_rfl
theorem isPtrT_127 : isPtrT Tryz.prog 127 = false := by kernel_rfl
theorem isU8T_127 : isU8T Tryz.prog 127 = false := by kernel_rfl
theorem szOf_136 : szOf Tryz.prog 136 = some 1 := by kernel_rfl
theorem isAgg_136 : isAggB Tryz.prog 136 = some false := by kernel_rfl
theorem bytesOf_136 : bytesOf Tryz.prog 136 = some 8 := by kernel_rfl
theorem zOk_136 : zOk Tryz.prog 136 1 = true := by kernel_rfl
theorem zSome_136 : (zeroOf Tryz.prog 136).isSome = true := by kernel_rfl
theorem isBoolT_136 : isBoolT Tryz.prog 136 = false := by kernel_rfl
theorem isPtrT_136 : isPtrT Tryz.prog 136 = false := by kernel_rfl
theorem isU8T_136 : isU8T Tryz.prog 136 = false := by kernel_rfl
theorem szOf_137 : szOf Tryz.prog 137 = some 1 := by kernel_rfl
theorem isAgg_137 : isAggB Tryz.prog 137 = some false := by kernel_rfl
theorem bytesOf_137 : bytesOf Tryz.prog 137 = some 8 := by kernel_rfl
theorem zeroOf_137 : zeroOf Tryz.prog 137 = some (.int .u64 0) := by kernel_rfl
theorem zOk_137 : zOk Tryz.prog 137 1 = true := by kernel_rfl
theorem zSome_137 : (zeroOf Tryz.prog 137).isSome = true := by kernel_rfl
theorem isBoolT_137 : isBoolT Tryz.prog 137 = false := by kernel_rfl
theorem isPtrT_137 : isPtrT Tryz.prog 137 = false := by kernel_rfl
theorem isU8T_137 : isU8T Tryz.prog 137 = false := by kernel_rfl
theorem szOf_141 : szOf Tryz.prog 141 = some 1 := by kernel_rfl
theorem isAgg_141 : isAggB Tryz.prog 141 = some false := by kernel_rfl
theorem bytesOf_141 : bytesOf Tryz.prog 141 = some 8 := by kernel_rfl
theorem zOk_141 : zOk Tryz.prog 141 1 = true := by kernel_rfl
theorem zSome_141 : (zeroOf Tryz.prog 141).isSome = true := by kernel_rfl
theorem isBoolT_141 : isBoolT Tryz.prog 141 = false := by kernel_rfl
theorem isPtrT_141 : isPtrT Tryz.prog 141 = true := by kernel_rfl
theorem isU8T_141 : isU8T Tryz.prog 141 = false := by kernel_rfl
theorem mapI_66 : mapI Tryz.prog 66 = true := by kernel_rfl
theorem fieldV_24_0 : fieldV Tryz.prog 24 0 = some 0 := by kernel_rfl
theorem fieldV_24_1 : fieldV Tryz.prog 24 1 = some 1 := by kernel_rfl
theorem fieldV_24_2 : fieldV Tryz.prog 24 2 = some 2 := by kernel_rfl
theorem fieldV_24_3 : fieldV Tryz.prog 24 3 = some 3 := by kernel_rfl
theorem fieldV_24_4 : fieldV Tryz.prog 24 4 = some 4 := by kernel_rfl
theorem fieldV_24_5 : fieldV Tryz.prog 24 5 = some 5 := by kernel_rfl
theorem fieldV_28_0 : fieldV Tryz.prog 28 0 = some 0 := by kernel_rfl
theorem fieldV_28_1 : fieldV Tryz.prog 28 1 = some 1 := by kernel_rfl
theorem fieldV_28_2 : fieldV Tryz.prog 28 2 = some 2 := by kernel_rfl
theorem fieldV_32_0 : fieldV Tryz.prog 32 0 = some 0 := by kernel_rfl
theorem fieldV_32_1 : fieldV Tryz.prog 32 1 = some 1 := by kernel_rfl
theorem fieldV_49_0 : fieldV Tryz.prog 49 0 = some 0 := by kernel_rfl
theorem fieldV_49_1 : fieldV Tryz.prog 49 1 = some 1 := by kernel_rfl
theorem fieldV_49_2 : fieldV Tryz.prog 49 2 = some 2 := by kernel_rfl
theorem fieldV_49_3 : fieldV Tryz.prog 49 3 = some 3 := by kernel_rfl
theorem fieldV_49_4 : fieldV Tryz.prog 49 4 = some 4 := by kernel_rfl
theorem fieldV_51_0 : fieldV Tryz.prog 51 0 = some 0 := by kernel_rfl
theorem fieldV_51_1 : fieldV Tryz.prog 51 1 = some 1 := by kernel_rfl
theorem fieldV_51_2 : fieldV Tryz.prog 51 2 = some 6 := by kernel_rfl
theorem fieldV_51_4 : fieldV Tryz.prog 51 4 = some 8 := by kernel_rfl
theorem fieldV_92_0 : fieldV Tryz.prog 92 0 = some 0 := by kernel_rfl
theorem fieldV_92_1 : fieldV Tryz.prog 92 1 = some 1 := by kernel_rfl
theorem fieldV_92_2 : fieldV Tryz.prog 92 2 = some 2 := by kernel_rfl
theorem fieldV_110_0 : fieldV Tryz.prog 110 0 = some 0 := by kernel_rfl
theorem fieldV_110_1 : fieldV Tryz.prog 110 1 = some 5 := by kernel_rfl
theorem fieldV_110_2 : fieldV Tryz.prog 110 2 = some 6 := by kernel_rfl
theorem fieldV_110_3 : fieldV Tryz.prog 110 3 = some 7 := by kernel_rfl
theorem buildC_24 (parts : List (Nat × V)) : buildC Tryz.prog 24 parts = fillC (#[(0, 1), (1, 1), (2, 1), (3, 1), (4, 1), (5, 1)][·]?) [V.s (.int .i64 0), V.s (.int .i64 0), V.s (.int .i64 0), V.s (.int .i64 0), V.s (.slice none 0 0), V.s (.slice none 0 0)] parts := by kernel_rfl
theorem buildC_28 (parts : List (Nat × V)) : buildC Tryz.prog 28 parts = fillC (#[(0, 1), (1, 1), (2, 1)][·]?) [V.s (.slice none 0 0), V.s (.int .i64 0), V.s (.slice none 0 0)] parts := by kernel_rfl
theorem buildC_32 (parts : List (Nat × V)) : buildC Tryz.prog 32 parts = fillC (#[(0, 1), (1, 16)][·]?) [V.s (.slice none 0 0), V.s (.int .i64 0), V.s (.int .i64 0), V.s (.int .i64 0), V.s (.int .i64 0), V.s (.int .i64 0), V.s (.int .i64 0), V.s (.int .i64 0), V.s (.int .i64 0), V.s (.int .i64 0), V.s (.int .i64 0), V.s (.int .i64 0), V.s (.int .i64 0), V.s (.int .i64 0), V.s (.int .i64 0), V.s (.int .i64 0), V.s (.int .i64 0)] parts := by kernel_rfl
theorem buildC_37 (parts : List (Nat × V)) : buildC Tryz.prog 37 parts = fillC (fun i => some (i * 12, 12)) [V.s (.int .i64 0), V.s (.int .i64 0), V.s (.int .i64 0), V.s (.int .i64 0), V.s (.int .i64 0), V.s (.int .i64 0), V.s (.int .i64 0), V.s (.int .i64 0), V.s (.int .i64 0), V.s (.int .i64 0), V.s (.int .i64 0), V.s (.int .i64 0), V.s (.int .i64 0), V.s (.int .i64 0), V.s (.int .i64 0), V.s (.int .i64 0), V.s (.int .i64 0), V.s (.int .i64 0), V.s (.int .i64 0), V.s (.int .i64 0), V.s (.int .i64 0), V.s (.int .i64 0), V.s (.int .i64 0), V.s (.int .i64 0)] parts := by kernel_rfl
theorem buildC_49 (parts : List (Nat × V)) : buildC Tryz.prog 49 parts = fillC (#[(0, 1), (1, 1), (2, 1), (3, 1), (4, 1)][·]?) [V.s (.int .i64 0), V.s (.int .i64 0), V.s (.int .i64 0), V.s (.int .i64 0), V.s (.int .i64 0)] parts := by kernel_rfl
theorem buildC_51 (parts : List (Nat × V)) : buildC Tryz.prog 51 parts = fillC (#[(0, 1), (1, 5), (6, 1), (7, 1), (8, 1)][·]?) [V.s (.int .i64 0), V.s (.int .i64 0), V.s (.int .i64 0), V.s (.int .i64 0), V.s (.int .i64 0), V.s (.int .i64 0), V.s (.int .i64 0), V.s (.int .i64 0), V.s (.int .i64 0)] parts := by kernel_rfl
theorem buildC_92 (parts : List (Nat × V)) : buildC Tryz.prog 92 parts = fillC (#[(0, 1), (1, 1), (2, 1)][·]?) [V.s (.int .i64 0), V.s (.int .i64 0), V.s (.slice none 0 0)] parts := by kernel_rfl
theorem buildC_110 (parts : List (Nat × V)) : buildC Tryz.prog 110 parts = fillC (#[(0, 5), (5, 1), (6, 1), (7, 1)][·]?) [V.s (.int .i64 0), V.s (.int .i64 0), V.s (.int .i64 0), V.s (.int .i64 0), V.s (.int .i64 0), V.s (.int .i64 0), V.s (.int .i64 0), V.s (.slice none 0 0)] parts := by kernel_rfl
/-- types of whole numbers alone that are held against each other -/
def eqT : EqT := fun t => t == 30 || t == 37 || t == 49 || t == 51
theorem eqT_ok : EqOk Tryz.prog eqT := eqOk_flat fun t ht => by
  simp only [eqT, Bool.or_eq_true, beq_iff_eq] at ht
  rcases ht with ((rfl | rfl) | rfl) | rfl <;> kernel_rfl
theorem eqT_30 : eqT 30 = true := by kernel_rfl
theorem eqT_37 : eqT 37 = true := by kernel_rfl
theorem eqT_49 : eqT 49 = true := by kernel_rfl
theorem eqT_51 : eqT 51 = true := by kernel_rfl
theorem mixed : Tryz.prog.follows .mixedOrders = true := by kernel_rfl
attribute [go_sem high] Tryz.underlying3 szOf_3 isAgg_3 bytesOf_3 zeroOf_3 zOk_3 zSome_3 isBoolT_3 isPtrT_3 isU8T_3 Tryz.underlying4 szOf_4 isAgg_4 bytesOf_4 zeroOf_4 zOk_4 zSome_4 isBoolT_4 isPtrT_4 isU8T_4 Tryz.underlying5 szOf_5 isAgg_5 bytesOf_5 zOk_5 zSome_5 isBoolT_5 isPtrT_5 isU8T_5 Tryz.underlying22 szOf_22 isAgg_22 bytesOf_22 zOk_22 zSome_22 isBoolT_22 isPtrT_22 isU8T_22 Tryz.underlying23 szOf_23 isAgg_23 bytesOf_23 zOk_23 zSome_23 isBoolT_23 isPtrT_23 isU8T_23 Tryz.underlying24 szOf_24 isAgg_24 bytesOf_24 zeroOf_24 zOk_24 zSome_24 isBoolT_24 isPtrT_24 isU8T_24 Tryz.underlying25 szOf_25 isAgg_25 bytesOf_25 zOk_25 zSome_25 isBoolT_25 isPtrT_25 isU8T_25 Tryz.underlying26 szOf_26 isAgg_26 bytesOf_26 zOk_26 zSome_26 isBoolT_26 isPtrT_26 isU8T_26 Tryz.underlying27 szOf_27 isAgg_27 bytesOf_27 zOk_27 zSome_27 isBoolT_27 isPtrT_27 isU8T_27 Tryz.underlying28 szOf_28 isAgg_28 bytesOf_28 zeroOf_28 zOk_28 zSome_28 isBoolT_28 isPtrT_28 isU8T_28 Tryz.underlying29 szOf_29 isAgg_29 bytesOf_29 zOk_29 zSome_29 isBoolT_29 isPtrT_29 isU8T_29 Tryz.underlying30 szOf_30 isAgg_30 bytesOf_30 zeroOf_30 zOk_30 zSome_30 isBoolT_30 isPtrT_30 isU8T_30 Tryz.underlying31 szOf_31 isAgg_31 bytesOf_31 zOk_31 zSome_31 isBoolT_31 isPtrT_31 isU8T_31 Tryz.underlying32 szOf_32 isAgg_32 bytesOf_32 zeroOf_32 zOk_32 zSome_32 isBoolT_32 isPtrT_32 isU8T_32 Tryz.underlying36 szOf_36 isAgg_36 bytesOf_36 zeroOf_36 zOk_36 zSome_36 isBoolT_36 isPtrT_36 isU8T_36 Tryz.underlying37 szOf_37 isAgg_37 bytesOf_37 zeroOf_37 zOk_37 zSome_37 isBoolT_37 isPtrT_37 isU8T_37 Tryz.underlying48 szOf_48 isAgg_48 bytesOf_48 zOk_48 zSome_48 isBoolT_48 isPtrT_48 isU8T_48 Tryz.underlying49 szOf_49 isAgg_49 bytesOf_49 zeroOf_49 zOk_49 zSome_49 isBoolT_49 isPtrT_49 isU8T_49 Tryz.underlying50 szOf_50 isAgg_50 bytesOf_50 zOk_50 zSome_50 isBoolT_50 isPtrT_50 isU8T_50 Tryz.underlying51 szOf_51 isAgg_51 bytesOf_51 zeroOf_51 zOk_51 zSome_51 isBoolT_51 isPtrT_51 isU8T_51 Tryz.underlying59 szOf_59 isAgg_59 bytesOf_59 zOk_59 zSome_59 isBoolT_59 isPtrT_59 isU8T_59 Tryz.underlying61 szOf_61 isAgg_61 bytesOf_61 zOk_61 zSome_61 isBoolT_61 isPtrT_61 isU8T_61 Tryz.underlying65 szOf_65 isAgg_65 bytesOf_65 zOk_65 zSome_65 isBoolT_65 isPtrT_65 isU8T_65 Tryz.underlying72 szOf_72 isAgg_72 bytesOf_72 zOk_72 zSome_72 isBoolT_72 isPtrT_72 isU8T_72 Tryz.underlying90 szOf_90 isAgg_90 bytesOf_90 zOk_90 zSome_90 isBoolT_90 isPtrT_90 isU8T_90 Tryz.underlying91 szOf_91 isAgg_91 bytesOf_91 zOk_91 zSome_91 isBoolT_91 isPtrT_91 isU8T_91 Tryz.underlying92 szOf_92 isAgg_92 bytesOf_92 zOk_92 zSome_92 isBoolT_92 isPtrT_92 isU8T_92 Tryz.underlying108 szOf_108 isAgg_108 bytesOf_108 zOk_108 zSome_108 isBoolT_108 isPtrT_108 isU8T_108 Tryz.underlying109 szOf_109 isAgg_109 bytesOf_109 zOk_109 zSome_109 isBoolT_109 isPtrT_109 isU8T_109 Tryz.underlying110 szOf_110 isAgg_110 bytesOf_110 zOk_110 zSome_110 isBoolT_110 isPtrT_110 isU8T_110 Tryz.underlying114 szOf_114 isAgg_114 bytesOf_114 zOk_114 zSome_114 isBoolT_114 isPtrT_114 isU8T_114 Tryz.underlying127 szOf_127 isAgg_127 bytesOf_127 zOk_127 zSome_127 isBoolT_127 isPtrT_127 isU8T_127 Tryz.underlying136 szOf_136 isAgg_136 bytesOf_136 zOk_136 zSome_136 isBoolT_136 isPtrT_136 isU8T_136 Tryz.underlying137 szOf_137 isAgg_137 bytesOf_137 zeroOf_137 zOk_137 zSome_137 isBoolT_137 isPtrT_137 isU8T_137 Tryz.underlying141 szOf_141 isAgg_141 bytesOf_141 zOk_141 zSome_141 isBoolT_141 isPtrT_141 isU8T_141 mapI_66 fieldV_24_0 fieldV_24_1 fieldV_24_2 fieldV_24_3 fieldV_24_4 fieldV_24_5 fieldV_28_0 fieldV_28_1 fieldV_28_2 fieldV_32_0 fieldV_32_1 fieldV_49_0 fieldV_49_1 fieldV_49_2 fieldV_49_3 fieldV_49_4 fieldV_51_0 fieldV_51_1 fieldV_51_2 fieldV_51_4 fieldV_92_0 fieldV_92_1 fieldV_92_2 fieldV_110_0 fieldV_110_1 fieldV_110_2 fieldV_110_3 buildC_24 buildC_28 buildC_32 buildC_37 buildC_49 buildC_51 buildC_92 buildC_110 eqT_30 eqT_37 eqT_49 eqT_51

end Go.Proofs.YtkfmecmmbnehjaaGreat
