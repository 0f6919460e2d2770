/-
Facts about the types of this program, as the kernel reckons them. No condition.
-/
import Derived.Test.YtalcmfmhifcaeaaGreatProg
import Derived.Test.YtalcmfmhifcaeaaGreatAbE
import Derived.KernelRfl
namespace Go.Proofs.YtalcmfmhifcaeaaGreat

theorem szOf_3 : szOf Tryz.prog 3 = some 1 := by kernel_rfl
theorem isAgg_3 : isAggB Tryz.prog 3 = some false := by kernel_rfl
theorem bytesOf_3 : bytesOf Tryz.prog 3 = some 8 := by kernel_rfl
theorem zeroOf_3 : zeroOf Tryz.prog 3 = some (.int .i64 0) := by kernel_rfl
theorem zOk_3 : zOk Tryz.prog 3 1 = true := by kernel_rfl
theorem zSome_3 : (zeroOf Tryz.prog 3).isSome = true := by kernel_rfl
theorem isBoolT_3 : isBoolT Tryz.prog 3 = false := by kernel_rfl
theorem isPtrT_3 : isPtrT Tryz.prog 3 = false := by kernel_rfl
theorem isU8T_3 : isU8T Tryz.prog 3 = false := by kernel_rfl
theorem szOf_4 : szOf Tryz.prog 4 = some 1 := by kernel_rfl
theorem isAgg_4 : isAggB Tryz.prog 4 = some false := by kernel_rfl
theorem bytesOf_4 : bytesOf Tryz.prog 4 = some 1 := by kernel_rfl
theorem zeroOf_4 : zeroOf Tryz.prog 4 = some (.bool false) := by kernel_rfl
theorem zOk_4 : zOk Tryz.prog 4 1 = true := by kernel_rfl
theorem zSome_4 : (zeroOf Tryz.prog 4).isSome = true := by kernel_rfl
theorem isBoolT_4 : isBoolT Tryz.prog 4 = true := by kernel_rfl
theorem isPtrT_4 : isPtrT Tryz.prog 4 = false := by kernel_rfl
theorem isU8T_4 : isU8T Tryz.prog 4 = false := by kernel_rfl
theorem szOf_5 : szOf Tryz.prog 5 = some 1 := by kernel_rfl
theorem isAgg_5 : isAggB Tryz.prog 5 = some false := by kernel_rfl
theorem bytesOf_5 : bytesOf Tryz.prog 5 = some 1 := by kernel_rfl
theorem zOk_5 : zOk Tryz.prog 5 1 = true := by kernel_rfl
theorem zSome_5 : (zeroOf Tryz.prog 5).isSome = true := by kernel_rfl
theorem isBoolT_5 : isBoolT Tryz.prog 5 = false := by kernel_rfl
theorem isPtrT_5 : isPtrT Tryz.prog 5 = false := by kernel_rfl
theorem isU8T_5 : isU8T Tryz.prog 5 = true := by kernel_rfl
theorem szOf_22 : szOf Tryz.prog 22 = some 1 := by kernel_rfl
theorem isAgg_22 : isAggB Tryz.prog 22 = some false := by kernel_rfl
theorem bytesOf_22 : bytesOf Tryz.prog 22 = some 24 := by kernel_rfl
theorem zOk_22 : zOk Tryz.prog 22 1 = true := by kernel_rfl
theorem zSome_22 : (zeroOf Tryz.prog 22).isSome = true := by kernel_rfl
theorem isBoolT_22 : isBoolT Tryz.prog 22 = false := by kernel_rfl
theorem isPtrT_22 : isPtrT Tryz.prog 22 = false := by kernel_rfl
theorem isU8T_22 : isU8T Tryz.prog 22 = false := by kernel_rfl
theorem szOf_23 : szOf Tryz.prog 23 = some 1 := by kernel_rfl
theorem isAgg_23 : isAggB Tryz.prog 23 = some false := by kernel_rfl
theorem bytesOf_23 : bytesOf Tryz.prog 23 = some 24 := by kernel_rfl
theorem zOk_23 : zOk Tryz.prog 23 1 = true := by kernel_rfl
theorem zSome_23 : (zeroOf Tryz.prog 23).isSome = true := by kernel_rfl
theorem isBoolT_23 : isBoolT Tryz.prog 23 = false := by kernel_rfl
theorem isPtrT_23 : isPtrT Tryz.prog 23 = false := by kernel_rfl
theorem isU8T_23 : isU8T Tryz.prog 23 = false := by kernel_rfl
theorem szOf_24 : szOf Tryz.prog 24 = some 3 := by kernel_rfl
theorem isAgg_24 : isAggB Tryz.prog 24 = some true := by kernel_rfl
theorem bytesOf_24 : bytesOf Tryz.prog 24 = some 56 := by kernel_rfl
theorem zOk_24 : zOk Tryz.prog 24 3 = true := by kernel_rfl
theorem zSome_24 : (zeroOf Tryz.prog 24).isSome = true := by kernel_rfl
theorem isBoolT_24 : isBoolT Tryz.prog 24 = false := by kernel_rfl
theorem isPtrT_24 : isPtrT Tryz.prog 24 = false := by kernel_rfl
theorem isU8T_24 : isU8T Tryz.prog 24 = false := by kernel_rfl
theorem szOf_25 : szOf Tryz.prog 25 = some 3 := by kernel_rfl
theorem isAgg_25 : isAggB Tryz.prog 25 = some true := by kernel_rfl
theorem bytesOf_25 : bytesOf Tryz.prog 25 = some 56 := by kernel_rfl
theorem zOk_25 : zOk Tryz.prog 25 3 = true := by kernel_rfl
theorem zSome_25 : (zeroOf Tryz.prog 25).isSome = true := by kernel_rfl
theorem isBoolT_25 : isBoolT Tryz.prog 25 = false := by kernel_rfl
theorem isPtrT_25 : isPtrT Tryz.prog 25 = false := by kernel_rfl
theorem isU8T_25 : isU8T Tryz.prog 25 = false := by kernel_rfl
theorem szOf_26 : szOf Tryz.prog 26 = some 16 := by kernel_rfl
theorem isAgg_26 : isAggB Tryz.prog 26 = some true := by kernel_rfl
theorem bytesOf_26 : bytesOf Tryz.prog 26 = some 128 := by kernel_rfl
theorem zeroOf_26 : zeroOf Tryz.prog 26 = some (.agg #[.int .i64 0, .int .i64 0, .int .i64 0, .int .i64 0, .int .i64 0, .int .i64 0, .int .i64 0, .int .i64 0, .int .i64 0, .int .i64 0, .int .i64 0, .int .i64 0, .int .i64 0, .int .i64 0, .int .i64 0, .int .i64 0]) := by kernel_rfl
theorem zOk_26 : zOk Tryz.prog 26 16 = true := by kernel_rfl
theorem zSome_26 : (zeroOf Tryz.prog 26).isSome = true := by kernel_rfl
theorem isBoolT_26 : isBoolT Tryz.prog 26 = false := by kernel_rfl
theorem isPtrT_26 : isPtrT Tryz.prog 26 = false := by kernel_rfl
theorem isU8T_26 : isU8T Tryz.prog 26 = false := by kernel_rfl
theorem szOf_27 : szOf Tryz.prog 27 = some 1 := by kernel_rfl
theorem isAgg_27 : isAggB Tryz.prog 27 = some false := by kernel_rfl
theorem bytesOf_27 : bytesOf Tryz.prog 27 = some 24 := by kernel_rfl
theorem zOk_27 : zOk Tryz.prog 27 1 = true := by kernel_rfl
theorem zSome_27 : (zeroOf Tryz.prog 27).isSome = true := by kernel_rfl
theorem isBoolT_27 : isBoolT Tryz.prog 27 = false := by kernel_rfl
theorem isPtrT_27 : isPtrT Tryz.prog 27 = false := by kernel_rfl
theorem isU8T_27 : isU8T Tryz.prog 27 = false := by kernel_rfl
theorem szOf_28 : szOf Tryz.prog 28 = some 17 := by kernel_rfl
theorem isAgg_28 : isAggB Tryz.prog 28 = some true := by kernel_rfl
theorem bytesOf_28 : bytesOf Tryz.prog 28 = some 152 := by kernel_rfl
theorem zOk_28 : zOk Tryz.prog 28 17 = true := by kernel_rfl
theorem zSome_28 : (zeroOf Tryz.prog 28).isSome = true := by kernel_rfl
theorem isBoolT_28 : isBoolT Tryz.prog 28 = false := by kernel_rfl
theorem isPtrT_28 : isPtrT Tryz.prog 28 = false := by kernel_rfl
theorem isU8T_28 : isU8T Tryz.prog 28 = false := by kernel_rfl
theorem szOf_29 : szOf Tryz.prog 29 = some 17 := by kernel_rfl
theorem isAgg_29 : isAggB Tryz.prog 29 = some true := by kernel_rfl
theorem bytesOf_29 : bytesOf Tryz.prog 29 = some 152 := by kernel_rfl
theorem zeroOf_29 : zeroOf Tryz.prog 29 = some (.agg #[.slice none 0 0, .int .i64 0, .int .i64 0, .int .i64 0, .int .i64 0, .int .i64 0, .int .i64 0, .int .i64 0, .int .i64 0, .int .i64 0, .int .i64 0, .int .i64 0, .int .i64 0, .int .i64 0, .int .i64 0, .int .i64 0, .int .i64 0]) := by kernel_rfl
theorem zOk_29 : zOk Tryz.prog 29 17 = true := by kernel_rfl
theorem zSome_29 : (zeroOf Tryz.prog 29).isSome = true := by kernel_rfl
theorem isBoolT_29 : isBoolT Tryz.prog 29 = false := by kernel_rfl
theorem isPtrT_29 : isPtrT Tryz.prog 29 = false := by kernel_rfl
theorem isU8T_29 : isU8T Tryz.prog 29 = false := by kernel_rfl
theorem szOf_33 : szOf Tryz.prog 33 = some 1 := by kernel_rfl
theorem isAgg_33 : isAggB Tryz.prog 33 = some false := by kernel_rfl
theorem bytesOf_33 : bytesOf Tryz.prog 33 = some 8 := by kernel_rfl
theorem zOk_33 : zOk Tryz.prog 33 1 = true := by kernel_rfl
theorem zSome_33 : (zeroOf Tryz.prog 33).isSome = true := by kernel_rfl
theorem isBoolT_33 : isBoolT Tryz.prog 33 = false := by kernel_rfl
theorem isPtrT_33 : isPtrT Tryz.prog 33 = false := by kernel_rfl
theorem isU8T_33 : isU8T Tryz.prog 33 = false := by kernel_rfl
theorem szOf_43 : szOf Tryz.prog 43 = some 5 := by kernel_rfl
theorem isAgg_43 : isAggB Tryz.prog 43 = some true := by kernel_rfl
theorem bytesOf_43 : bytesOf Tryz.prog 43 = some 40 := by kernel_rfl
theorem zOk_43 : zOk Tryz.prog 43 5 = true := by kernel_rfl
theorem zSome_43 : (zeroOf Tryz.prog 43).isSome = true := by kernel_rfl
theorem isBoolT_43 : isBoolT Tryz.prog 43 = false := by kernel_rfl
theorem isPtrT_43 : isPtrT Tryz.prog 43 = false := by kernel_rfl
theorem isU8T_43 : isU8T Tryz.prog 43 = false := by kernel_rfl
theorem szOf_44 : szOf Tryz.prog 44 = some 5 := by kernel_rfl
theorem isAgg_44 : isAggB Tryz.prog 44 = some true := by kernel_rfl
theorem bytesOf_44 : bytesOf Tryz.prog 44 = some 40 := by kernel_rfl
theorem zeroOf_44 : zeroOf Tryz.prog 44 = some (.agg #[.int .i64 0, .int .i64 0, .int .i64 0, .int .i64 0, .int .i64 0]) := by kernel_rfl
theorem zOk_44 : zOk Tryz.prog 44 5 = true := by kernel_rfl
theorem zSome_44 : (zeroOf Tryz.prog 44).isSome = true := by kernel_rfl
theorem isBoolT_44 : isBoolT Tryz.prog 44 = false := by kernel_rfl
theorem isPtrT_44 : isPtrT Tryz.prog 44 = false := by kernel_rfl
theorem isU8T_44 : isU8T Tryz.prog 44 = false := by kernel_rfl
theorem szOf_45 : szOf Tryz.prog 45 = some 1 := by kernel_rfl
theorem isAgg_45 : isAggB Tryz.prog 45 = some false := by kernel_rfl
theorem bytesOf_45 : bytesOf Tryz.prog 45 = some 24 := by kernel_rfl
theorem zOk_45 : zOk Tryz.prog 45 1 = true := by kernel_rfl
theorem zSome_45 : (zeroOf Tryz.prog 45).isSome = true := by kernel_rfl
theorem isBoolT_45 : isBoolT Tryz.prog 45 = false := by kernel_rfl
theorem isPtrT_45 : isPtrT Tryz.prog 45 = false := by kernel_rfl
theorem isU8T_45 : isU8T Tryz.prog 45 = false := by kernel_rfl
theorem szOf_46 : szOf Tryz.prog 46 = some 6 := by kernel_rfl
theorem isAgg_46 : isAggB Tryz.prog 46 = some true := by kernel_rfl
theorem bytesOf_46 : bytesOf Tryz.prog 46 = some 80 := by kernel_rfl
theorem zOk_46 : zOk Tryz.prog 46 6 = true := by kernel_rfl
theorem zSome_46 : (zeroOf Tryz.prog 46).isSome = true := by kernel_rfl
theorem isBoolT_46 : isBoolT Tryz.prog 46 = false := by kernel_rfl
theorem isPtrT_46 : isPtrT Tryz.prog 46 = false := by kernel_rfl
theorem isU8T_46 : isU8T Tryz.prog 46 = false := by kernel_rfl
theorem szOf_47 : szOf Tryz.prog 47 = some 6 := by kernel_rfl
theorem isAgg_47 : isAggB Tryz.prog 47 = some true := by kernel_rfl
theorem bytesOf_47 : bytesOf Tryz.prog 47 = some 80 := by kernel_rfl
theorem zeroOf_47 : zeroOf Tryz.prog 47 = some (.agg #[.int .i64 0, .int .i64 0, .int .i64 0, .int .i64 0, .slice none 0 0, .slice none 0 0]) := by kernel_rfl
theorem zOk_47 : zOk Tryz.prog 47 6 = true := by kernel_rfl
theorem zSome_47 : (zeroOf Tryz.prog 47).isSome = true := by kernel_rfl
theorem isBoolT_47 : isBoolT Tryz.prog 47 = false := by kernel_rfl
theorem isPtrT_47 : isPtrT Tryz.prog 47 = false := by kernel_rfl
theorem isU8T_47 : isU8T Tryz.prog 47 = false := by kernel_rfl
theorem szOf_59 : szOf Tryz.prog 59 = some 1 := by kernel_rfl
theorem isAgg_59 : isAggB Tryz.prog 59 = some false := by kernel_rfl
theorem bytesOf_59 : bytesOf Tryz.prog 59 = some 8 := by kernel_rfl
theorem zOk_59 : zOk Tryz.prog 59 1 = true := by kernel_rfl
theorem zSome_59 : (zeroOf Tryz.prog 59).isSome = true := by kernel_rfl
theorem isBoolT_59 : isBoolT Tryz.prog 59 = false := by kernel_rfl
theorem isPtrT_59 : isPtrT Tryz.prog 59 = true := by kernel_rfl
theorem isU8T_59 : isU8T Tryz.prog 59 = false := by kernel_rfl
theorem szOf_61 : szOf Tryz.prog 61 = some 1 := by kernel_rfl
theorem isAgg_61 : isAggB Tryz.prog 61 = some false := by kernel_rfl
theorem bytesOf_61 : bytesOf Tryz.prog 61 = some 24 := by kernel_rfl
theorem zOk_61 : zOk Tryz.prog 61 1 = true := by kernel_rfl
theorem zSome_61 : (zeroOf Tryz.prog 61).isSome = true := by kernel_rfl
theorem isBoolT_61 : isBoolT Tryz.prog 61 = false := by kernel_rfl
theorem isPtrT_61 : isPtrT Tryz.prog 61 = false := by kernel_rfl
theorem isU8T_61 : isU8T Tryz.prog 61 = false := by kernel_rfl
theorem szOf_72 : szOf Tryz.prog 72 = some 1 := by kernel_rfl
theorem isAgg_72 : isAggB Tryz.prog 72 = some false := by kernel_rfl
theorem bytesOf_72 : bytesOf Tryz.prog 72 = some 8 := by kernel_rfl
theorem zOk_72 : zOk Tryz.prog 72 1 = true := by kernel_rfl
theorem zSome_72 : (zeroOf Tryz.prog 72).isSome = true := by kernel_rfl
theorem isBoolT_72 : isBoolT Tryz.prog 72 = false := by kernel_rfl
theorem isPtrT_72 : isPtrT Tryz.prog 72 = true := by kernel_rfl
theorem isU8T_72 : isU8T Tryz.prog 72 = false := by kernel_rfl
theorem szOf_73 : szOf Tryz.prog 73 = some 8 := by kernel_rfl
theorem isAgg_73 : isAggB Tryz.prog 73 = some true := by kernel_rfl
theorem bytesOf_73 : bytesOf Tryz.prog 73 = some 80 := by kernel_rfl
theorem zOk_73 : zOk Tryz.prog 73 8 = true := by kernel_rfl
theorem zSome_73 : (zeroOf Tryz.prog 73).isSome = true := by kernel_rfl
theorem isBoolT_73 : isBoolT Tryz.prog 73 = false := by kernel_rfl
theorem isPtrT_73 : isPtrT Tryz.prog 73 = false := by kernel_rfl
theorem isU8T_73 : isU8T Tryz.prog 73 = false := by kernel_rfl
theorem szOf_74 : szOf Tryz.prog 74 = some 8 := by kernel_rfl
theorem isAgg_74 : isAggB Tryz.prog 74 = some true := by kernel_rfl
theorem bytesOf_74 : bytesOf Tryz.prog 74 = some 80 := by kernel_rfl
theorem zOk_74 : zOk Tryz.prog 74 8 = true := by kernel_rfl
theorem zSome_74 : (zeroOf Tryz.prog 74).isSome = true := by kernel_rfl
theorem isBoolT_74 : isBoolT Tryz.prog 74 = false := by kernel_rfl
theorem isPtrT_74 : isPtrT Tryz.prog 74 = false := by kernel_rfl
theorem isU8T_74 : isU8T Tryz.prog 74 = false := by kernel_rfl
theorem szOf_85 : szOf Tryz.prog 85 = some 1 := by kernel_rfl
theorem isAgg_85 : isAggB Tryz.prog 85 = some false := by kernel_rfl
theorem bytesOf_85 : bytesOf Tryz.prog 85 = some 8 := by kernel_rfl
theorem zOk_85 : zOk Tryz.prog 85 1 = true := by kernel_rfl
theorem zSome_85 : (zeroOf Tryz.prog 85).isSome = true := by kernel_rfl
theorem isBoolT_85 : isBoolT Tryz.prog 85 = false := by kernel_rfl
theorem isPtrT_85 : isPtrT Tryz.prog 85 = true := by kernel_rfl
theorem isU8T_85 : isU8T Tryz.prog 85 = false := by kernel_rfl
theorem szOf_86 : szOf Tryz.prog 86 = some 3 := by kernel_rfl
theorem isAgg_86 : isAggB Tryz.prog 86 = some true := by kernel_rfl
theorem bytesOf_86 : bytesOf Tryz.prog 86 = some 40 := by kernel_rfl
theorem zOk_86 : zOk Tryz.prog 86 3 = true := by kernel_rfl
theorem zSome_86 : (zeroOf Tryz.prog 86).isSome = true := by kernel_rfl
theorem isBoolT_86 : isBoolT Tryz.prog 86 = false := by kernel_rfl
theorem isPtrT_86 : isPtrT Tryz.prog 86 = false := by kernel_rfl
theorem isU8T_86 : isU8T Tryz.prog 86 = false := by kernel_rfl
theorem szOf_87 : szOf Tryz.prog 87 = some 3 := by kernel_rfl
theorem isAgg_87 : isAggB Tryz.prog 87 = some true := by kernel_rfl
theorem bytesOf_87 : bytesOf Tryz.prog 87 = some 40 := by kernel_rfl
theorem zOk_87 : zOk Tryz.prog 87 3 = true := by kernel_rfl
theorem zSome_87 : (zeroOf Tryz.prog 87).isSome = true := by kernel_rfl
theorem isBoolT_87 : isBoolT Tryz.prog 87 = false := by kernel_rfl
theorem isPtrT_87 : isPtrT Tryz.prog 87 = false := by kernel_rfl
theorem isU8T_87 : isU8T Tryz.prog 87 = false := by kernel_rfl
theorem szOf_89 : szOf Tryz.prog 89 = some 9 := by kernel_rfl
theorem isAgg_89 : isAggB Tryz.prog 89 = some true := by kernel_rfl
theorem bytesOf_89 : bytesOf Tryz.prog 89 = some 72 := by kernel_rfl
theorem zOk_89 : zOk Tryz.prog 89 9 = true := by kernel_rfl
theorem zSome_89 : (zeroOf Tryz.prog 89).isSome = true := by kernel_rfl
theorem isBoolT_89 : isBoolT Tryz.prog 89 = false := by kernel_rfl
theorem isPtrT_89 : isPtrT Tryz.prog 89 = false := by kernel_rfl
theorem isU8T_89 : isU8T Tryz.prog 89 = false := by kernel_rfl
theorem szOf_90 : szOf Tryz.prog 90 = some 9 := by kernel_rfl
theorem isAgg_90 : isAggB Tryz.prog 90 = some true := by kernel_rfl
theorem bytesOf_90 : bytesOf Tryz.prog 90 = some 72 := by kernel_rfl
theorem zOk_90 : zOk Tryz.prog 90 9 = true := by kernel_rfl
theorem zSome_90 : (zeroOf Tryz.prog 90).isSome = true := by kernel_rfl
theorem isBoolT_90 : isBoolT Tryz.prog 90 = false := by kernel_rfl
theorem isPtrT_90 : isPtrT Tryz.prog 90 = false := by kernel_rfl
theorem isU8T_90 : isU8T Tryz.prog 90 = false := by kernel_rfl
theorem szOf_100 : szOf Tryz.prog 100 = some 1 := by kernel_rfl
theorem isAgg_100 : isAggB Tryz.prog 100 = some false := by kernel_rfl
theorem bytesOf_100 : bytesOf Tryz.prog 100 = some 8 := by kernel_rfl
theorem zOk_100 : zOk Tryz.prog 100 1 = true := by kernel_rfl
theorem zSome_100 : (zeroOf Tryz.prog 100).isSome = true := by kernel_rfl
theorem isBoolT_100 : isBoolT Tryz.prog 100 = false := by kernel_rfl
theorem isPtrT_100 : isPtrT Tryz.prog 100 = false := by kernel_rfl
theorem isU8T_100 : isU8T Tryz.prog 100 = false := by kernel_rfl
theorem szOf_104 : szOf Tryz.prog 104 = some 1 := by kernel_rfl
theorem isAgg_104 : isAggB Tryz.prog 104 = some false := by kernel_rfl
theorem bytesOf_104 : bytesOf Tryz.prog 104 = some 24 := by kernel_rfl
theorem zOk_104 : zOk Tryz.prog 104 1 = true := by kernel_rfl
theorem zSome_104 : (zeroOf Tryz.prog 104).isSome = true := by kernel_rfl
theorem isBoolT_104 : isBoolT Tryz.prog 104 = false := by kernel_rfl
theorem isPtrT_104 : isPtrT Tryz.prog 104 = false := by kernel_rfl
theorem isU8T_104 : isU8T Tryz.prog 104 = false := by kernel_rfl
theorem szOf_109 : szOf Tryz.prog 109 = some 1 := by kernel_rfl
theorem isAgg_109 : isAggB Tryz.prog 109 = some false := by kernel_rfl
theorem bytesOf_109 : bytesOf Tryz.prog 109 = some 8 := by kernel_rfl
theorem zOk_109 : zOk Tryz.prog 109 1 = true := by kernel_rfl
theorem zSome_109 : (zeroOf Tryz.prog 109).isSome = true := by kernel_rfl
theorem isBoolT_109 : isBoolT Tryz.prog 109 = false := by kernel_rfl
theorem isPtrT_109 : isPtrT Tryz.prog 109 = false := by kernel_rfl
theorem isU8T_109 : isU8T Tryz.prog 109 = false := by kernel_rfl
theorem szOf_118 : szOf Tryz.prog 118 = some 1 := by kernel_rfl
theorem isAgg_118 : isAggB Tryz.prog 118 = some false := by kernel_rfl
theorem bytesOf_118 : bytesOf Tryz.prog 118 = some 8 := by kernel_rfl
theorem zOk_118 : zOk Tryz.prog 118 1 = true := by kernel_rfl
theorem zSome_118 : (zeroOf Tryz.prog 118).isSome = true := by kernel_rfl
theorem isBoolT_118 : isBoolT Tryz.prog 118 = false := by kernel_rfl
theorem isPtrT_118 : isPtrT Tryz.prog 118 = false := by kernel_rfl
theorem isU8T_118 : isU8T Tryz.prog 118 = false := by kernel_rfl
theorem szOf_119 : szOf Tryz.prog 119 = some 1 := by kernel_rfl
theorem isAgg_119 : isAggB Tryz.prog 119 = some false := by kernel_rfl
theorem bytesOf_119 : bytesOf Tryz.prog 119 = some 8 := by kernel_rfl
theorem zeroOf_119 : zeroOf Tryz.prog 119 = some (.int .u64 0) := by kernel_rfl
theorem zOk_119 : zOk Tryz.prog 119 1 = true := by kernel_rfl
theorem zSome_119 : (zeroOf Tryz.prog 119).isSome = true := by kernel_rfl
theorem isBoolT_119 : isBoolT Tryz.prog 119 = false := by kernel_rfl
theorem isPtrT_119 : isPtrT Tryz.prog 119 = false := by kernel_rfl
theorem isU8T_119 : isU8T Tryz.prog 119 = false := by kernel_rfl
theorem szOf_123 : szOf Tryz.prog 123 = some 1 := by kernel_rfl
theorem isAgg_123 : isAggB Tryz.prog 123 = some false := by kernel_rfl
theorem bytesOf_123 : bytesOf Tryz.prog 123 = some 8 := by kernel_rfl
theorem zOk_123 : zOk Tryz.prog 123 1 = true := by kernel_rfl
theorem zSome_123 : (zeroOf Tryz.prog 123).isSome = true := by kernel_rfl
theorem isBoolT_123 : isBoolT Tryz.prog 123 = false := by kernel_rfl
theorem isPtrT_123 : isPtrT Tryz.prog 123 = true := by kernel_rfl
theorem isU8T_123 : isU8T Tryz.prog 123 = false := by kernel_rfl
theorem fieldV_25_0 : fieldV Tryz.prog 25 0 = some 0 := by kernel_rfl
theorem fieldV_25_1 : fieldV Tryz.prog 25 1 = some 1 := by kernel_rfl
theorem fieldV_25_2 : fieldV Tryz.prog 25 2 = some 2 := by kernel_rfl
theorem fieldV_29_0 : fieldV Tryz.prog 29 0 = some 0 := by kernel_rfl
theorem fieldV_29_1 : fieldV Tryz.prog 29 1 = some 1 := by kernel_rfl
theorem fieldV_44_0 : fieldV Tryz.prog 44 0 = some 0 := by kernel_rfl
theorem fieldV_44_1 : fieldV Tryz.prog 44 1 = some 1 := by kernel_rfl
theorem fieldV_44_2 : fieldV Tryz.prog 44 2 = some 2 := by kernel_rfl
theorem fieldV_44_3 : fieldV Tryz.prog 44 3 = some 3 := by kernel_rfl
theorem fieldV_44_4 : fieldV Tryz.prog 44 4 = some 4 := by kernel_rfl
theorem fieldV_47_0 : fieldV Tryz.prog 47 0 = some 0 := by kernel_rfl
theorem fieldV_47_1 : fieldV Tryz.prog 47 1 = some 1 := by kernel_rfl
theorem fieldV_47_2 : fieldV Tryz.prog 47 2 = some 2 := by kernel_rfl
theorem fieldV_47_3 : fieldV Tryz.prog 47 3 = some 3 := by kernel_rfl
theorem fieldV_47_4 : fieldV Tryz.prog 47 4 = some 4 := by kernel_rfl
theorem fieldV_47_5 : fieldV Tryz.prog 47 5 = some 5 := by kernel_rfl
theorem fieldV_74_0 : fieldV Tryz.prog 74 0 = some 0 := by kernel_rfl
theorem fieldV_74_1 : fieldV Tryz.prog 74 1 = some 5 := by kernel_rfl
theorem fieldV_74_2 : fieldV Tryz.prog 74 2 = some 6 := by kernel_rfl
theorem fieldV_74_3 : fieldV Tryz.prog 74 3 = some 7 := by kernel_rfl
theorem fieldV_87_0 : fieldV Tryz.prog 87 0 = some 0 := by kernel_rfl
theorem fieldV_87_1 : fieldV Tryz.prog 87 1 = some 1 := by kernel_rfl
theorem fieldV_87_2 : fieldV Tryz.prog 87 2 = some 2 := by kernel_rfl
theorem buildC_25 (parts : List (Nat × V)) : buildC Tryz.prog 25 parts = fillC (#[(0, 1), (1, 1), (2, 1)][·]?) [V.s (.slice none 0 0), V.s (.int .i64 0), V.s (.slice none 0 0)] parts := by kernel_rfl
theorem buildC_26 (parts : List (Nat × V)) : buildC Tryz.prog 26 parts = fillC (fun i => some (i * 1, 1)) [V.s (.int .i64 0), V.s (.int .i64 0), V.s (.int .i64 0), V.s (.int .i64 0), V.s (.int .i64 0), V.s (.int .i64 0), V.s (.int .i64 0), V.s (.int .i64 0), V.s (.int .i64 0), V.s (.int .i64 0), V.s (.int .i64 0), V.s (.int .i64 0), V.s (.int .i64 0), V.s (.int .i64 0), V.s (.int .i64 0), V.s (.int .i64 0)] parts := by kernel_rfl
theorem buildC_29 (parts : List (Nat × V)) : buildC Tryz.prog 29 parts = fillC (#[(0, 1), (1, 16)][·]?) [V.s (.slice none 0 0), V.s (.int .i64 0), V.s (.int .i64 0), V.s (.int .i64 0), V.s (.int .i64 0), V.s (.int .i64 0), V.s (.int .i64 0), V.s (.int .i64 0), V.s (.int .i64 0), V.s (.int .i64 0), V.s (.int .i64 0), V.s (.int .i64 0), V.s (.int .i64 0), V.s (.int .i64 0), V.s (.int .i64 0), V.s (.int .i64 0), V.s (.int .i64 0)] parts := by kernel_rfl
theorem buildC_44 (parts : List (Nat × V)) : buildC Tryz.prog 44 parts = fillC (#[(0, 1), (1, 1), (2, 1), (3, 1), (4, 1)][·]?) [V.s (.int .i64 0), V.s (.int .i64 0), V.s (.int .i64 0), V.s (.int .i64 0), V.s (.int .i64 0)] parts := by kernel_rfl
theorem buildC_47 (parts : List (Nat × V)) : buildC Tryz.prog 47 parts = fillC (#[(0, 1), (1, 1), (2, 1), (3, 1), (4, 1), (5, 1)][·]?) [V.s (.int .i64 0), V.s (.int .i64 0), V.s (.int .i64 0), V.s (.int .i64 0), V.s (.slice none 0 0), V.s (.slice none 0 0)] parts := by kernel_rfl
theorem buildC_74 (parts : List (Nat × V)) : buildC Tryz.prog 74 parts = fillC (#[(0, 5), (5, 1), (6, 1), (7, 1)][·]?) [V.s (.int .i64 0), V.s (.int .i64 0), V.s (.int .i64 0), V.s (.int .i64 0), V.s (.int .i64 0), V.s (.int .i64 0), V.s (.int .i64 0), V.s (.slice none 0 0)] parts := by kernel_rfl
theorem buildC_87 (parts : List (Nat × V)) : buildC Tryz.prog 87 parts = fillC (#[(0, 1), (1, 1), (2, 1)][·]?) [V.s (.int .i64 0), V.s (.int .i64 0), V.s (.slice none 0 0)] parts := by kernel_rfl
theorem buildC_90 (parts : List (Nat × V)) : buildC Tryz.prog 90 parts = fillC (#[(0, 1), (1, 5), (6, 1), (7, 1), (8, 1)][·]?) [V.s (.int .i64 0), V.s (.int .i64 0), V.s (.int .i64 0), V.s (.int .i64 0), V.s (.int .i64 0), V.s (.int .i64 0), V.s (.int .i64 0), V.s (.int .i64 0), V.s (.int .i64 0)] parts := by kernel_rfl
/-- types of whole numbers alone that are held against each other -/
def eqT : EqT := fun t => t == 26 || t == 90
theorem eqT_ok : EqOk Tryz.prog eqT := eqOk_flat fun t ht => by
  simp only [eqT, Bool.or_eq_true, beq_iff_eq] at ht
  rcases ht with rfl | rfl <;> kernel_rfl
theorem eqT_26 : eqT 26 = true := by kernel_rfl
theorem eqT_90 : eqT 90 = true := by kernel_rfl
theorem mixed : Tryz.prog.follows .mixedOrders = true := by kernel_rfl
attribute [go_sem high] Tryz.underlying3 szOf_3 isAgg_3 bytesOf_3 zeroOf_3 zOk_3 zSome_3 isBoolT_3 isPtrT_3 isU8T_3 Tryz.underlying4 szOf_4 isAgg_4 bytesOf_4 zeroOf_4 zOk_4 zSome_4 isBoolT_4 isPtrT_4 isU8T_4 Tryz.underlying5 szOf_5 isAgg_5 bytesOf_5 zOk_5 zSome_5 isBoolT_5 isPtrT_5 isU8T_5 Tryz.underlying22 szOf_22 isAgg_22 bytesOf_22 zOk_22 zSome_22 isBoolT_22 isPtrT_22 isU8T_22 Tryz.underlying23 szOf_23 isAgg_23 bytesOf_23 zOk_23 zSome_23 isBoolT_23 isPtrT_23 isU8T_23 Tryz.underlying24 szOf_24 isAgg_24 bytesOf_24 zOk_24 zSome_24 isBoolT_24 isPtrT_24 isU8T_24 Tryz.underlying25 szOf_25 isAgg_25 bytesOf_25 zOk_25 zSome_25 isBoolT_25 isPtrT_25 isU8T_25 Tryz.underlying26 szOf_26 isAgg_26 bytesOf_26 zeroOf_26 zOk_26 zSome_26 isBoolT_26 isPtrT_26 isU8T_26 Tryz.underlying27 szOf_27 isAgg_27 bytesOf_27 zOk_27 zSome_27 isBoolT_27 isPtrT_27 isU8T_27 Tryz.underlying28 szOf_28 isAgg_28 bytesOf_28 zOk_28 zSome_28 isBoolT_28 isPtrT_28 isU8T_28 Tryz.underlying29 szOf_29 isAgg_29 bytesOf_29 zeroOf_29 zOk_29 zSome_29 isBoolT_29 isPtrT_29 isU8T_29 Tryz.underlying33 szOf_33 isAgg_33 bytesOf_33 zOk_33 zSome_33 isBoolT_33 isPtrT_33 isU8T_33 Tryz.underlying43 szOf_43 isAgg_43 bytesOf_43 zOk_43 zSome_43 isBoolT_43 isPtrT_43 isU8T_43 Tryz.underlying44 szOf_44 isAgg_44 bytesOf_44 zeroOf_44 zOk_44 zSome_44 isBoolT_44 isPtrT_44 isU8T_44 Tryz.underlying45 szOf_45 isAgg_45 bytesOf_45 zOk_45 zSome_45 isBoolT_45 isPtrT_45 isU8T_45 Tryz.underlying46 szOf_46 isAgg_46 bytesOf_46 zOk_46 zSome_46 isBoolT_46 isPtrT_46 isU8T_46 Tryz.underlying47 szOf_47 isAgg_47 bytesOf_47 zeroOf_47 zOk_47 zSome_47 isBoolT_47 isPtrT_47 isU8T_47 Tryz.underlying59 szOf_59 isAgg_59 bytesOf_59 zOk_59 zSome_59 isBoolT_59 isPtrT_59 isU8T_59 Tryz.underlying61 szOf_61 isAgg_61 bytesOf_61 zOk_61 zSome_61 isBoolT_61 isPtrT_61 isU8T_61 Tryz.underlying72 szOf_72 isAgg_72 bytesOf_72 zOk_72 zSome_72 isBoolT_72 isPtrT_72 isU8T_72 Tryz.underlying73 szOf_73 isAgg_73 bytesOf_73 zOk_73 zSome_73 isBoolT_73 isPtrT_73 isU8T_73 Tryz.underlying74 szOf_74 isAgg_74 bytesOf_74 zOk_74 zSome_74 isBoolT_74 isPtrT_74 isU8T_74 Tryz.underlying85 szOf_85 isAgg_85 bytesOf_85 zOk_85 zSome_85 isBoolT_85 isPtrT_85 isU8T_85 Tryz.underlying86 szOf_86 isAgg_86 bytesOf_86 zOk_86 zSome_86 isBoolT_86 isPtrT_86 isU8T_86 Tryz.underlying87 szOf_87 isAgg_87 bytesOf_87 zOk_87 zSome_87 isBoolT_87 isPtrT_87 isU8T_87 Tryz.underlying89 szOf_89 isAgg_89 bytesOf_89 zOk_89 zSome_89 isBoolT_89 isPtrT_89 isU8T_89 Tryz.underlying90 szOf_90 isAgg_90 bytesOf_90 zOk_90 zSome_90 isBoolT_90 isPtrT_90 isU8T_90 Tryz.underlying100 szOf_100 isAgg_100 bytesOf_100 zOk_100 zSome_100 isBoolT_100 isPtrT_100 isU8T_100 Tryz.underlying104 szOf_104 isAgg_104 bytesOf_104 zOk_104 zSome_104 isBoolT_104 isPtrT_104 isU8T_104 Tryz.underlying109 szOf_109 isAgg_109 bytesOf_109 zOk_109 zSome_109 isBoolT_109 isPtrT_109 isU8T_109 Tryz.underlying118 szOf_118 isAgg_118 bytesOf_118 zOk_118 zSome_118 isBoolT_118 isPtrT_118 isU8T_118 Tryz.underlying119 szOf_119 isAgg_119 bytesOf_119 zeroOf_119 zOk_119 zSome_119 isBoolT_119 isPtrT_119 isU8T_119 Tryz.underlying123 szOf_123 isAgg_123 bytesOf_123 zOk_123 zSome_123 isBoolT_123 isPtrT_123 isU8T_123 fieldV_25_0 fieldV_25_1 fieldV_25_2 fieldV_29_0 fieldV_29_1 fieldV_44_0 fieldV_44_1 fieldV_44_2 fieldV_44_3 fieldV_44_4 fieldV_47_0 fieldV_47_1 fieldV_47_2 fieldV_47_3 fieldV_47_4 fieldV_47_5 fieldV_74_0 fieldV_74_1 fieldV_74_2 fieldV_74_3 fieldV_87_0 fieldV_87_1 fieldV_87_2 buildC_25 buildC_26 buildC_29 buildC_44 buildC_47 buildC_74 buildC_87 buildC_90 eqT_26 eqT_90

end Go.Proofs.YtalcmfmhifcaeaaGreat
