/-
Facts about the types of this program, as the kernel reckons them. No condition.
-/
import Derived.Test.YtalcmfmhifcaeaaProg
import Derived.Test.YtalcmfmhifcaeaaAbE
import Derived.KernelRfl
namespace Go.Proofs.Ytalcmfmhifcaeaa

theorem szOf_3 : szOf Try.prog 3 = some 1 := by kernel_rfl
theorem isAgg_3 : isAggB Try.prog 3 = some false := by kernel_rfl
theorem bytesOf_3 : bytesOf Try.prog 3 = some 8 := by kernel_rfl
theorem zeroOf_3 : zeroOf Try.prog 3 = some (.int .i64 0) := by kernel_rfl
theorem zOk_3 : zOk Try.prog 3 1 = true := by kernel_rfl
theorem zSome_3 : (zeroOf Try.prog 3).isSome = true := by kernel_rfl
theorem isBoolT_3 : isBoolT Try.prog 3 = false := by kernel_rfl
theorem isPtrT_3 : isPtrT Try.prog 3 = false := by kernel_rfl
theorem isU8T_3 : isU8T Try.prog 3 = false := by kernel_rfl
theorem szOf_4 : szOf Try.prog 4 = some 1 := by kernel_rfl
theorem isAgg_4 : isAggB Try.prog 4 = some false := by kernel_rfl
theorem bytesOf_4 : bytesOf Try.prog 4 = some 1 := by kernel_rfl
theorem zOk_4 : zOk Try.prog 4 1 = true := by kernel_rfl
theorem zSome_4 : (zeroOf Try.prog 4).isSome = true := by kernel_rfl
theorem isBoolT_4 : isBoolT Try.prog 4 = true := by kernel_rfl
theorem isPtrT_4 : isPtrT Try.prog 4 = false := by kernel_rfl
theorem isU8T_4 : isU8T Try.prog 4 = false := by kernel_rfl
theorem szOf_5 : szOf Try.prog 5 = some 1 := by kernel_rfl
theorem isAgg_5 : isAggB Try.prog 5 = some false := by kernel_rfl
theorem bytesOf_5 : bytesOf Try.prog 5 = some 1 := by kernel_rfl
theorem zOk_5 : zOk Try.prog 5 1 = true := by kernel_rfl
theorem zSome_5 : (zeroOf Try.prog 5).isSome = true := by kernel_rfl
theorem isBoolT_5 : isBoolT Try.prog 5 = false := by kernel_rfl
theorem isPtrT_5 : isPtrT Try.prog 5 = false := by kernel_rfl
theorem isU8T_5 : isU8T Try.prog 5 = true := by kernel_rfl
theorem szOf_22 : szOf Try.prog 22 = some 1 := by kernel_rfl
theorem isAgg_22 : isAggB Try.prog 22 = some false := by kernel_rfl
theorem bytesOf_22 : bytesOf Try.prog 22 = some 24 := by kernel_rfl
theorem zOk_22 : zOk Try.prog 22 1 = true := by kernel_rfl
theorem zSome_22 : (zeroOf Try.prog 22).isSome = true := by kernel_rfl
theorem isBoolT_22 : isBoolT Try.prog 22 = false := by kernel_rfl
theorem isPtrT_22 : isPtrT Try.prog 22 = false := by kernel_rfl
theorem isU8T_22 : isU8T Try.prog 22 = false := by kernel_rfl
theorem szOf_23 : szOf Try.prog 23 = some 1 := by kernel_rfl
theorem isAgg_23 : isAggB Try.prog 23 = some false := by kernel_rfl
theorem bytesOf_23 : bytesOf Try.prog 23 = some 24 := by kernel_rfl
theorem zOk_23 : zOk Try.prog 23 1 = true := by kernel_rfl
theorem zSome_23 : (zeroOf Try.prog 23).isSome = true := by kernel_rfl
theorem isBoolT_23 : isBoolT Try.prog 23 = false := by kernel_rfl
theorem isPtrT_23 : isPtrT Try.prog 23 = false := by kernel_rfl
theorem isU8T_23 : isU8T Try.prog 23 = false := by kernel_rfl
theorem szOf_24 : szOf Try.prog 24 = some 3 := by kernel_rfl
theorem isAgg_24 : isAggB Try.prog 24 = some true := by kernel_rfl
theorem bytesOf_24 : bytesOf Try.prog 24 = some 56 := by kernel_rfl
theorem zOk_24 : zOk Try.prog 24 3 = true := by kernel_rfl
theorem zSome_24 : (zeroOf Try.prog 24).isSome = true := by kernel_rfl
theorem isBoolT_24 : isBoolT Try.prog 24 = false := by kernel_rfl
theorem isPtrT_24 : isPtrT Try.prog 24 = false := by kernel_rfl
theorem isU8T_24 : isU8T Try.prog 24 = false := by kernel_rfl
theorem szOf_25 : szOf Try.prog 25 = some 3 := by kernel_rfl
theorem isAgg_25 : isAggB Try.prog 25 = some true := by kernel_rfl
theorem bytesOf_25 : bytesOf Try.prog 25 = some 56 := by kernel_rfl
theorem zeroOf_25 : zeroOf Try.prog 25 = some (.agg #[.slice none 0 0, .int .i64 0, .slice none 0 0]) := by kernel_rfl
theorem zOk_25 : zOk Try.prog 25 3 = true := by kernel_rfl
theorem zSome_25 : (zeroOf Try.prog 25).isSome = true := by kernel_rfl
theorem isBoolT_25 : isBoolT Try.prog 25 = false := by kernel_rfl
theorem isPtrT_25 : isPtrT Try.prog 25 = false := by kernel_rfl
theorem isU8T_25 : isU8T Try.prog 25 = false := by kernel_rfl
theorem szOf_28 : szOf Try.prog 28 = some 1 := by kernel_rfl
theorem isAgg_28 : isAggB Try.prog 28 = some false := by kernel_rfl
theorem bytesOf_28 : bytesOf Try.prog 28 = some 24 := by kernel_rfl
theorem zOk_28 : zOk Try.prog 28 1 = true := by kernel_rfl
theorem zSome_28 : (zeroOf Try.prog 28).isSome = true := by kernel_rfl
theorem isBoolT_28 : isBoolT Try.prog 28 = false := by kernel_rfl
theorem isPtrT_28 : isPtrT Try.prog 28 = false := by kernel_rfl
theorem isU8T_28 : isU8T Try.prog 28 = false := by kernel_rfl
theorem szOf_29 : szOf Try.prog 29 = some 16 := by kernel_rfl
theorem isAgg_29 : isAggB Try.prog 29 = some true := by kernel_rfl
theorem bytesOf_29 : bytesOf Try.prog 29 = some 128 := by kernel_rfl
theorem zeroOf_29 : zeroOf Try.prog 29 = some (.agg #[.int .i64 0, .int .i64 0, .int .i64 0, .int .i64 0, .int .i64 0, .int .i64 0, .int .i64 0, .int .i64 0, .int .i64 0, .int .i64 0, .int .i64 0, .int .i64 0, .int .i64 0, .int .i64 0, .int .i64 0, .int .i64 0]) := by kernel_rfl
theorem zOk_29 : zOk Try.prog 29 16 = true := by kernel_rfl
theorem zSome_29 : (zeroOf Try.prog 29).isSome = true := by kernel_rfl
theorem isBoolT_29 : isBoolT Try.prog 29 = false := by kernel_rfl
theorem isPtrT_29 : isPtrT Try.prog 29 = false := by kernel_rfl
theorem isU8T_29 : isU8T Try.prog 29 = false := by kernel_rfl
theorem szOf_30 : szOf Try.prog 30 = some 17 := by kernel_rfl
theorem isAgg_30 : isAggB Try.prog 30 = some true := by kernel_rfl
theorem bytesOf_30 : bytesOf Try.prog 30 = some 152 := by kernel_rfl
theorem zOk_30 : zOk Try.prog 30 17 = true := by kernel_rfl
theorem zSome_30 : (zeroOf Try.prog 30).isSome = true := by kernel_rfl
theorem isBoolT_30 : isBoolT Try.prog 30 = false := by kernel_rfl
theorem isPtrT_30 : isPtrT Try.prog 30 = false := by kernel_rfl
theorem isU8T_30 : isU8T Try.prog 30 = false := by kernel_rfl
theorem szOf_31 : szOf Try.prog 31 = some 17 := by kernel_rfl
theorem isAgg_31 : isAggB Try.prog 31 = some true := by kernel_rfl
theorem bytesOf_31 : bytesOf Try.prog 31 = some 152 := by kernel_rfl
theorem zeroOf_31 : zeroOf Try.prog 31 = some (.agg #[.slice none 0 0, .int .i64 0, .int .i64 0, .int .i64 0, .int .i64 0, .int .i64 0, .int .i64 0, .int .i64 0, .int .i64 0, .int .i64 0, .int .i64 0, .int .i64 0, .int .i64 0, .int .i64 0, .int .i64 0, .int .i64 0, .int .i64 0]) := by kernel_rfl
theorem zOk_31 : zOk Try.prog 31 17 = true := by kernel_rfl
theorem zSome_31 : (zeroOf Try.prog 31).isSome = true := by kernel_rfl
theorem isBoolT_31 : isBoolT Try.prog 31 = false := by kernel_rfl
theorem isPtrT_31 : isPtrT Try.prog 31 = false := by kernel_rfl
theorem isU8T_31 : isU8T Try.prog 31 = false := by kernel_rfl
theorem szOf_32 : szOf Try.prog 32 = some 1 := by kernel_rfl
theorem isAgg_32 : isAggB Try.prog 32 = some false := by kernel_rfl
theorem bytesOf_32 : bytesOf Try.prog 32 = some 8 := by kernel_rfl
theorem zOk_32 : zOk Try.prog 32 1 = true := by kernel_rfl
theorem zSome_32 : (zeroOf Try.prog 32).isSome = true := by kernel_rfl
theorem isBoolT_32 : isBoolT Try.prog 32 = false := by kernel_rfl
theorem isPtrT_32 : isPtrT Try.prog 32 = false := by kernel_rfl
theorem isU8T_32 : isU8T Try.prog 32 = false := by kernel_rfl
theorem szOf_39 : szOf Try.prog 39 = some 1 := by kernel_rfl
theorem isAgg_39 : isAggB Try.prog 39 = some false := by kernel_rfl
theorem bytesOf_39 : bytesOf Try.prog 39 = some 24 := by kernel_rfl
theorem zOk_39 : zOk Try.prog 39 1 = true := by kernel_rfl
theorem zSome_39 : (zeroOf Try.prog 39).isSome = true := by kernel_rfl
theorem isBoolT_39 : isBoolT Try.prog 39 = false := by kernel_rfl
theorem isPtrT_39 : isPtrT Try.prog 39 = false := by kernel_rfl
theorem isU8T_39 : isU8T Try.prog 39 = false := by kernel_rfl
theorem szOf_40 : szOf Try.prog 40 = some 6 := by kernel_rfl
theorem isAgg_40 : isAggB Try.prog 40 = some true := by kernel_rfl
theorem bytesOf_40 : bytesOf Try.prog 40 = some 80 := by kernel_rfl
theorem zOk_40 : zOk Try.prog 40 6 = true := by kernel_rfl
theorem zSome_40 : (zeroOf Try.prog 40).isSome = true := by kernel_rfl
theorem isBoolT_40 : isBoolT Try.prog 40 = false := by kernel_rfl
theorem isPtrT_40 : isPtrT Try.prog 40 = false := by kernel_rfl
theorem isU8T_40 : isU8T Try.prog 40 = false := by kernel_rfl
theorem szOf_41 : szOf Try.prog 41 = some 6 := by kernel_rfl
theorem isAgg_41 : isAggB Try.prog 41 = some true := by kernel_rfl
theorem bytesOf_41 : bytesOf Try.prog 41 = some 80 := by kernel_rfl
theorem zeroOf_41 : zeroOf Try.prog 41 = some (.agg #[.int .i64 0, .int .i64 0, .int .i64 0, .int .i64 0, .slice none 0 0, .slice none 0 0]) := by kernel_rfl
theorem zOk_41 : zOk Try.prog 41 6 = true := by kernel_rfl
theorem zSome_41 : (zeroOf Try.prog 41).isSome = true := by kernel_rfl
theorem isBoolT_41 : isBoolT Try.prog 41 = false := by kernel_rfl
theorem isPtrT_41 : isPtrT Try.prog 41 = false := by kernel_rfl
theorem isU8T_41 : isU8T Try.prog 41 = false := by kernel_rfl
theorem szOf_43 : szOf Try.prog 43 = some 1 := by kernel_rfl
theorem isAgg_43 : isAggB Try.prog 43 = some false := by kernel_rfl
theorem bytesOf_43 : bytesOf Try.prog 43 = some 24 := by kernel_rfl
theorem zOk_43 : zOk Try.prog 43 1 = true := by kernel_rfl
theorem zSome_43 : (zeroOf Try.prog 43).isSome = true := by kernel_rfl
theorem isBoolT_43 : isBoolT Try.prog 43 = false := by kernel_rfl
theorem isPtrT_43 : isPtrT Try.prog 43 = false := by kernel_rfl
theorem isU8T_43 : isU8T Try.prog 43 = false := by kernel_rfl
theorem szOf_44 : szOf Try.prog 44 = some 5 := by kernel_rfl
theorem isAgg_44 : isAggB Try.prog 44 = some true := by kernel_rfl
theorem bytesOf_44 : bytesOf Try.prog 44 = some 40 := by kernel_rfl
theorem zOk_44 : zOk Try.prog 44 5 = true := by kernel_rfl
theorem zSome_44 : (zeroOf Try.prog 44).isSome = true := by kernel_rfl
theorem isBoolT_44 : isBoolT Try.prog 44 = false := by kernel_rfl
theorem isPtrT_44 : isPtrT Try.prog 44 = false := by kernel_rfl
theorem isU8T_44 : isU8T Try.prog 44 = false := by kernel_rfl
theorem szOf_45 : szOf Try.prog 45 = some 5 := by kernel_rfl
theorem isAgg_45 : isAggB Try.prog 45 = some true := by kernel_rfl
theorem bytesOf_45 : bytesOf Try.prog 45 = some 40 := by kernel_rfl
theorem zeroOf_45 : zeroOf Try.prog 45 = some (.agg #[.int .i64 0, .int .i64 0, .int .i64 0, .int .i64 0, .int .i64 0]) := by kernel_rfl
theorem zOk_45 : zOk Try.prog 45 5 = true := by kernel_rfl
theorem zSome_45 : (zeroOf Try.prog 45).isSome = true := by kernel_rfl
theorem isBoolT_45 : isBoolT Try.prog 45 = false := by kernel_rfl
theorem isPtrT_45 : isPtrT Try.prog 45 = false := by kernel_rfl
theorem isU8T_45 : isU8T Try.prog 45 = false := by kernel_rfl
theorem szOf_46 : szOf Try.prog 46 = some 9 := by kernel_rfl
theorem isAgg_46 : isAggB Try.prog 46 = some true := by kernel_rfl
theorem bytesOf_46 : bytesOf Try.prog 46 = some 72 := by kernel_rfl
theorem zOk_46 : zOk Try.prog 46 9 = true := by kernel_rfl
theorem zSome_46 : (zeroOf Try.prog 46).isSome = true := by kernel_rfl
theorem isBoolT_46 : isBoolT Try.prog 46 = false := by kernel_rfl
theorem isPtrT_46 : isPtrT Try.prog 46 = false := by kernel_rfl
theorem isU8T_46 : isU8T Try.prog 46 = false := by kernel_rfl
theorem szOf_47 : szOf Try.prog 47 = some 9 := by kernel_rfl
theorem isAgg_47 : isAggB Try.prog 47 = some true := by kernel_rfl
theorem bytesOf_47 : bytesOf Try.prog 47 = some 72 := by kernel_rfl
theorem zOk_47 : zOk Try.prog 47 9 = true := by kernel_rfl
theorem zSome_47 : (zeroOf Try.prog 47).isSome = true := by kernel_rfl
theorem isBoolT_47 : isBoolT Try.prog 47 = false := by kernel_rfl
theorem isPtrT_47 : isPtrT Try.prog 47 = false := by kernel_rfl
theorem isU8T_47 : isU8T Try.prog 47 = false := by kernel_rfl
theorem szOf_57 : szOf Try.prog 57 = some 1 := by kernel_rfl
theorem isAgg_57 : isAggB Try.prog 57 = some false := by kernel_rfl
theorem bytesOf_57 : bytesOf Try.prog 57 = some 8 := by kernel_rfl
theorem zOk_57 : zOk Try.prog 57 1 = true := by kernel_rfl
theorem zSome_57 : (zeroOf Try.prog 57).isSome = true := by kernel_rfl
theorem isBoolT_57 : isBoolT Try.prog 57 = false := by kernel_rfl
theorem isPtrT_57 : isPtrT Try.prog 57 = false := by kernel_rfl
theorem isU8T_57 : isU8T Try.prog 57 = false := by kernel_rfl
theorem szOf_69 : szOf Try.prog 69 = some 1 := by kernel_rfl
theorem isAgg_69 : isAggB Try.prog 69 = some false := by kernel_rfl
theorem bytesOf_69 : bytesOf Try.prog 69 = some 8 := by kernel_rfl
theorem zOk_69 : zOk Try.prog 69 1 = true := by kernel_rfl
theorem zSome_69 : (zeroOf Try.prog 69).isSome = true := by kernel_rfl
theorem isBoolT_69 : isBoolT Try.prog 69 = false := by kernel_rfl
theorem isPtrT_69 : isPtrT Try.prog 69 = true := by kernel_rfl
theorem isU8T_69 : isU8T Try.prog 69 = false := by kernel_rfl
theorem szOf_78 : szOf Try.prog 78 = some 1 := by kernel_rfl
theorem isAgg_78 : isAggB Try.prog 78 = some false := by kernel_rfl
theorem bytesOf_78 : bytesOf Try.prog 78 = some 8 := by kernel_rfl
theorem zOk_78 : zOk Try.prog 78 1 = true := by kernel_rfl
theorem zSome_78 : (zeroOf Try.prog 78).isSome = true := by kernel_rfl
theorem isBoolT_78 : isBoolT Try.prog 78 = false := by kernel_rfl
theorem isPtrT_78 : isPtrT Try.prog 78 = true := by kernel_rfl
theorem isU8T_78 : isU8T Try.prog 78 = false := by kernel_rfl
theorem szOf_79 : szOf Try.prog 79 = some 8 := by kernel_rfl
theorem isAgg_79 : isAggB Try.prog 79 = some true := by kernel_rfl
theorem bytesOf_79 : bytesOf Try.prog 79 = some 80 := by kernel_rfl
theorem zOk_79 : zOk Try.prog 79 8 = true := by kernel_rfl
theorem zSome_79 : (zeroOf Try.prog 79).isSome = true := by kernel_rfl
theorem isBoolT_79 : isBoolT Try.prog 79 = false := by kernel_rfl
theorem isPtrT_79 : isPtrT Try.prog 79 = false := by kernel_rfl
theorem isU8T_79 : isU8T Try.prog 79 = false := by kernel_rfl
theorem szOf_80 : szOf Try.prog 80 = some 8 := by kernel_rfl
theorem isAgg_80 : isAggB Try.prog 80 = some true := by kernel_rfl
theorem bytesOf_80 : bytesOf Try.prog 80 = some 80 := by kernel_rfl
theorem zOk_80 : zOk Try.prog 80 8 = true := by kernel_rfl
theorem zSome_80 : (zeroOf Try.prog 80).isSome = true := by kernel_rfl
theorem isBoolT_80 : isBoolT Try.prog 80 = false := by kernel_rfl
theorem isPtrT_80 : isPtrT Try.prog 80 = false := by kernel_rfl
theorem isU8T_80 : isU8T Try.prog 80 = false := by kernel_rfl
theorem szOf_100 : szOf Try.prog 100 = some 1 := by kernel_rfl
theorem isAgg_100 : isAggB Try.prog 100 = some false := by kernel_rfl
theorem bytesOf_100 : bytesOf Try.prog 100 = some 8 := by kernel_rfl
theorem zOk_100 : zOk Try.prog 100 1 = true := by kernel_rfl
theorem zSome_100 : (zeroOf Try.prog 100).isSome = true := by kernel_rfl
theorem isBoolT_100 : isBoolT Try.prog 100 = false := by kernel_rfl
theorem isPtrT_100 : isPtrT Try.prog 100 = false := by kernel_rfl
theorem isU8T_100 : isU8T Try.prog 100 = false := by kernel_rfl
theorem szOf_109 : szOf Try.prog 109 = some 1 := by kernel_rfl
theorem isAgg_109 : isAggB Try.prog 109 = some false := by kernel_rfl
theorem bytesOf_109 : bytesOf Try.prog 109 = some 8 := by kernel_rfl
theorem zOk_109 : zOk Try.prog 109 1 = true := by kernel_rfl
theorem zSome_109 : (zeroOf Try.prog 109).isSome = true := by kernel_rfl
theorem isBoolT_109 : isBoolT Try.prog 109 = false := by kernel_rfl
theorem isPtrT_109 : isPtrT Try.prog 109 = false := by kernel_rfl
theorem isU8T_109 : isU8T Try.prog 109 = false := by kernel_rfl
theorem szOf_110 : szOf Try.prog 110 = some 1 := by kernel_rfl
theorem isAgg_110 : isAggB Try.prog 110 = some false := by kernel_rfl
theorem bytesOf_110 : bytesOf Try.prog 110 = some 8 := by kernel_rfl
theorem zeroOf_110 : zeroOf Try.prog 110 = some (.int .u64 0) := by kernel_rfl
theorem zOk_110 : zOk Try.prog 110 1 = true := by kernel_rfl
theorem zSome_110 : (zeroOf Try.prog 110).isSome = true := by kernel_rfl
theorem isBoolT_110 : isBoolT Try.prog 110 = false := by kernel_rfl
theorem isPtrT_110 : isPtrT Try.prog 110 = false := by kernel_rfl
theorem isU8T_110 : isU8T Try.prog 110 = false := by kernel_rfl
theorem szOf_114 : szOf Try.prog 114 = some 1 := by kernel_rfl
theorem isAgg_114 : isAggB Try.prog 114 = some false := by kernel_rfl
theorem bytesOf_114 : bytesOf Try.prog 114 = some 8 := by kernel_rfl
theorem zOk_114 : zOk Try.prog 114 1 = true := by kernel_rfl
theorem zSome_114 : (zeroOf Try.prog 114).isSome = true := by kernel_rfl
theorem isBoolT_114 : isBoolT Try.prog 114 = false := by kernel_rfl
theorem isPtrT_114 : isPtrT Try.prog 114 = true := by kernel_rfl
theorem isU8T_114 : isU8T Try.prog 114 = false := by kernel_rfl
theorem fieldV_25_0 : fieldV Try.prog 25 0 = some 0 := by kernel_rfl
theorem fieldV_25_1 : fieldV Try.prog 25 1 = some 1 := by kernel_rfl
theorem fieldV_25_2 : fieldV Try.prog 25 2 = some 2 := by kernel_rfl
theorem fieldV_31_0 : fieldV Try.prog 31 0 = some 0 := by kernel_rfl
theorem fieldV_31_1 : fieldV Try.prog 31 1 = some 1 := by kernel_rfl
theorem fieldV_41_0 : fieldV Try.prog 41 0 = some 0 := by kernel_rfl
theorem fieldV_41_1 : fieldV Try.prog 41 1 = some 1 := by kernel_rfl
theorem fieldV_41_2 : fieldV Try.prog 41 2 = some 2 := by kernel_rfl
theorem fieldV_41_3 : fieldV Try.prog 41 3 = some 3 := by kernel_rfl
theorem fieldV_41_4 : fieldV Try.prog 41 4 = some 4 := by kernel_rfl
theorem fieldV_41_5 : fieldV Try.prog 41 5 = some 5 := by kernel_rfl
theorem fieldV_45_0 : fieldV Try.prog 45 0 = some 0 := by kernel_rfl
theorem fieldV_45_1 : fieldV Try.prog 45 1 = some 1 := by kernel_rfl
theorem fieldV_45_2 : fieldV Try.prog 45 2 = some 2 := by kernel_rfl
theorem fieldV_45_3 : fieldV Try.prog 45 3 = some 3 := by kernel_rfl
theorem fieldV_45_4 : fieldV Try.prog 45 4 = some 4 := by kernel_rfl
theorem fieldV_47_3 : fieldV Try.prog 47 3 = some 7 := by kernel_rfl
theorem fieldV_47_4 : fieldV Try.prog 47 4 = some 8 := by kernel_rfl
theorem fieldV_80_0 : fieldV Try.prog 80 0 = some 0 := by kernel_rfl
theorem fieldV_80_1 : fieldV Try.prog 80 1 = some 5 := by kernel_rfl
theorem fieldV_80_2 : fieldV Try.prog 80 2 = some 6 := by kernel_rfl
theorem fieldV_80_3 : fieldV Try.prog 80 3 = some 7 := by kernel_rfl
theorem buildC_25 (parts : List (Nat × V)) : buildC Try.prog 25 parts = fillC (#[(0, 1), (1, 1), (2, 1)][·]?) [V.s (.slice none 0 0), V.s (.int .i64 0), V.s (.slice none 0 0)] parts := by kernel_rfl
theorem buildC_29 (parts : List (Nat × V)) : buildC Try.prog 29 parts = fillC (fun i => some (i * 1, 1)) [V.s (.int .i64 0), V.s (.int .i64 0), V.s (.int .i64 0), V.s (.int .i64 0), V.s (.int .i64 0), V.s (.int .i64 0), V.s (.int .i64 0), V.s (.int .i64 0), V.s (.int .i64 0), V.s (.int .i64 0), V.s (.int .i64 0), V.s (.int .i64 0), V.s (.int .i64 0), V.s (.int .i64 0), V.s (.int .i64 0), V.s (.int .i64 0)] parts := by kernel_rfl
theorem buildC_31 (parts : List (Nat × V)) : buildC Try.prog 31 parts = fillC (#[(0, 1), (1, 16)][·]?) [V.s (.slice none 0 0), V.s (.int .i64 0), V.s (.int .i64 0), V.s (.int .i64 0), V.s (.int .i64 0), V.s (.int .i64 0), V.s (.int .i64 0), V.s (.int .i64 0), V.s (.int .i64 0), V.s (.int .i64 0), V.s (.int .i64 0), V.s (.int .i64 0), V.s (.int .i64 0), V.s (.int .i64 0), V.s (.int .i64 0), V.s (.int .i64 0), V.s (.int .i64 0)] parts := by kernel_rfl
theorem buildC_41 (parts : List (Nat × V)) : buildC Try.prog 41 parts = fillC (#[(0, 1), (1, 1), (2, 1), (3, 1), (4, 1), (5, 1)][·]?) [V.s (.int .i64 0), V.s (.int .i64 0), V.s (.int .i64 0), V.s (.int .i64 0), V.s (.slice none 0 0), V.s (.slice none 0 0)] parts := by kernel_rfl
theorem buildC_45 (parts : List (Nat × V)) : buildC Try.prog 45 parts = fillC (#[(0, 1), (1, 1), (2, 1), (3, 1), (4, 1)][·]?) [V.s (.int .i64 0), V.s (.int .i64 0), V.s (.int .i64 0), V.s (.int .i64 0), V.s (.int .i64 0)] parts := by kernel_rfl
theorem buildC_47 (parts : List (Nat × V)) : buildC Try.prog 47 parts = fillC (#[(0, 1), (1, 5), (6, 1), (7, 1), (8, 1)][·]?) [V.s (.int .i64 0), V.s (.int .i64 0), V.s (.int .i64 0), V.s (.int .i64 0), V.s (.int .i64 0), V.s (.int .i64 0), V.s (.int .i64 0), V.s (.int .i64 0), V.s (.int .i64 0)] parts := by kernel_rfl
theorem buildC_80 (parts : List (Nat × V)) : buildC Try.prog 80 parts = fillC (#[(0, 5), (5, 1), (6, 1), (7, 1)][·]?) [V.s (.int .i64 0), V.s (.int .i64 0), V.s (.int .i64 0), V.s (.int .i64 0), V.s (.int .i64 0), V.s (.int .i64 0), V.s (.int .i64 0), V.s (.slice none 0 0)] parts := by kernel_rfl
/-- types of whole numbers alone that are held against each other -/
def eqT : EqT := fun t => t == 29 || t == 47
theorem eqT_ok : EqOk Try.prog eqT := eqOk_flat fun t ht => by
  simp only [eqT, Bool.or_eq_true, beq_iff_eq] at ht
  rcases ht with rfl | rfl <;> kernel_rfl
theorem eqT_29 : eqT 29 = true := by kernel_rfl
theorem eqT_47 : eqT 47 = true := by kernel_rfl
theorem mixed : Try.prog.follows .mixedOrders = true := by kernel_rfl
attribute [go_sem high] Try.underlying3 szOf_3 isAgg_3 bytesOf_3 zeroOf_3 zOk_3 zSome_3 isBoolT_3 isPtrT_3 isU8T_3 Try.underlying4 szOf_4 isAgg_4 bytesOf_4 zOk_4 zSome_4 isBoolT_4 isPtrT_4 isU8T_4 Try.underlying5 szOf_5 isAgg_5 bytesOf_5 zOk_5 zSome_5 isBoolT_5 isPtrT_5 isU8T_5 Try.underlying22 szOf_22 isAgg_22 bytesOf_22 zOk_22 zSome_22 isBoolT_22 isPtrT_22 isU8T_22 Try.underlying23 szOf_23 isAgg_23 bytesOf_23 zOk_23 zSome_23 isBoolT_23 isPtrT_23 isU8T_23 Try.underlying24 szOf_24 isAgg_24 bytesOf_24 zOk_24 zSome_24 isBoolT_24 isPtrT_24 isU8T_24 Try.underlying25 szOf_25 isAgg_25 bytesOf_25 zeroOf_25 zOk_25 zSome_25 isBoolT_25 isPtrT_25 isU8T_25 Try.underlying28 szOf_28 isAgg_28 bytesOf_28 zOk_28 zSome_28 isBoolT_28 isPtrT_28 isU8T_28 Try.underlying29 szOf_29 isAgg_29 bytesOf_29 zeroOf_29 zOk_29 zSome_29 isBoolT_29 isPtrT_29 isU8T_29 Try.underlying30 szOf_30 isAgg_30 bytesOf_30 zOk_30 zSome_30 isBoolT_30 isPtrT_30 isU8T_30 Try.underlying31 szOf_31 isAgg_31 bytesOf_31 zeroOf_31 zOk_31 zSome_31 isBoolT_31 isPtrT_31 isU8T_31 Try.underlying32 szOf_32 isAgg_32 bytesOf_32 zOk_32 zSome_32 isBoolT_32 isPtrT_32 isU8T_32 Try.underlying39 szOf_39 isAgg_39 bytesOf_39 zOk_39 zSome_39 isBoolT_39 isPtrT_39 isU8T_39 Try.underlying40 szOf_40 isAgg_40 bytesOf_40 zOk_40 zSome_40 isBoolT_40 isPtrT_40 isU8T_40 Try.underlying41 szOf_41 isAgg_41 bytesOf_41 zeroOf_41 zOk_41 zSome_41 isBoolT_41 isPtrT_41 isU8T_41 Try.underlying43 szOf_43 isAgg_43 bytesOf_43 zOk_43 zSome_43 isBoolT_43 isPtrT_43 isU8T_43 Try.underlying44 szOf_44 isAgg_44 bytesOf_44 zOk_44 zSome_44 isBoolT_44 isPtrT_44 isU8T_44 Try.underlying45 szOf_45 isAgg_45 bytesOf_45 zeroOf_45 zOk_45 zSome_45 isBoolT_45 isPtrT_45 isU8T_45 Try.underlying46 szOf_46 isAgg_46 bytesOf_46 zOk_46 zSome_46 isBoolT_46 isPtrT_46 isU8T_46 Try.underlying47 szOf_47 isAgg_47 bytesOf_47 zOk_47 zSome_47 isBoolT_47 isPtrT_47 isU8T_47 Try.underlying57 szOf_57 isAgg_57 bytesOf_57 zOk_57 zSome_57 isBoolT_57 isPtrT_57 isU8T_57 Try.underlying69 szOf_69 isAgg_69 bytesOf_69 zOk_69 zSome_69 isBoolT_69 isPtrT_69 isU8T_69 Try.underlying78 szOf_78 isAgg_78 bytesOf_78 zOk_78 zSome_78 isBoolT_78 isPtrT_78 isU8T_78 Try.underlying79 szOf_79 isAgg_79 bytesOf_79 zOk_79 zSome_79 isBoolT_79 isPtrT_79 isU8T_79 Try.underlying80 szOf_80 isAgg_80 bytesOf_80 zOk_80 zSome_80 isBoolT_80 isPtrT_80 isU8T_80 Try.underlying100 szOf_100 isAgg_100 bytesOf_100 zOk_100 zSome_100 isBoolT_100 isPtrT_100 isU8T_100 Try.underlying109 szOf_109 isAgg_109 bytesOf_109 zOk_109 zSome_109 isBoolT_109 isPtrT_109 isU8T_109 Try.underlying110 szOf_110 isAgg_110 bytesOf_110 zeroOf_110 zOk_110 zSome_110 isBoolT_110 isPtrT_110 isU8T_110 Try.underlying114 szOf_114 isAgg_114 bytesOf_114 zOk_114 zSome_114 isBoolT_114 isPtrT_114 isU8T_114 fieldV_25_0 fieldV_25_1 fieldV_25_2 fieldV_31_0 fieldV_31_1 fieldV_41_0 fieldV_41_1 fieldV_41_2 fieldV_41_3 fieldV_41_4 fieldV_41_5 fieldV_45_0 fieldV_45_1 fieldV_45_2 fieldV_45_3 fieldV_45_4 fieldV_47_3 fieldV_47_4 fieldV_80_0 fieldV_80_1 fieldV_80_2 fieldV_80_3 buildC_25 buildC_29 buildC_31 buildC_41 buildC_45 buildC_47 buildC_80 eqT_29 eqT_47

end Go.Proofs.Ytalcmfmhifcaeaa
