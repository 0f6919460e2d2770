/-
Facts about the types of this program, as the kernel reckons them. No condition.
-/
import Derived.Test.YtbmgaebhcomjaaaProg
import Derived.Test.YtbmgaebhcomjaaaAbE
import Derived.KernelRfl
namespace Go.Proofs.Ytbmgaebhcomjaaa

theorem szOf_3 : szOf Try.prog 3 = some 1 := by kernel_rfl
theorem isAgg_3 : isAggB Try.prog 3 = some false := by kernel_rfl
theorem bytesOf_3 : bytesOf Try.prog 3 = some 8 := by kernel_rfl
theorem zeroOf_3 : zeroOf Try.prog 3 = some (.int .i64 0) := by kernel_rfl
theorem zOk_3 : zOk Try.prog 3 1 = true := by kernel_rfl
theorem zSome_3 : (zeroOf Try.prog 3).isSome = true := by kernel_rfl
theorem isBoolT_3 : isBoolT Try.prog 3 = false := by kernel_rfl
theorem isPtrT_3 : isPtrT Try.prog 3 = false := by kernel_rfl
theorem isU8T_3 : isU8T Try.prog 3 = false := by kernel_rfl
theorem szOf_4 : szOf Try.prog 4 = some 1 := by kernel_rfl
theorem isAgg_4 : isAggB Try.prog 4 = some false := by kernel_rfl
theorem bytesOf_4 : bytesOf Try.prog 4 = some 1 := by kernel_rfl
theorem zeroOf_4 : zeroOf Try.prog 4 = some (.bool false) := by kernel_rfl
theorem zOk_4 : zOk Try.prog 4 1 = true := by kernel_rfl
theorem zSome_4 : (zeroOf Try.prog 4).isSome = true := by kernel_rfl
theorem isBoolT_4 : isBoolT Try.prog 4 = true := by kernel_rfl
theorem isPtrT_4 : isPtrT Try.prog 4 = false := by kernel_rfl
theorem isU8T_4 : isU8T Try.prog 4 = false := by kernel_rfl
theorem szOf_5 : szOf Try.prog 5 = some 1 := by kernel_rfl
theorem isAgg_5 : isAggB Try.prog 5 = some false := by kernel_rfl
theorem bytesOf_5 : bytesOf Try.prog 5 = some 1 := by kernel_rfl
theorem zOk_5 : zOk Try.prog 5 1 = true := by kernel_rfl
theorem zSome_5 : (zeroOf Try.prog 5).isSome = true := by kernel_rfl
theorem isBoolT_5 : isBoolT Try.prog 5 = false := by kernel_rfl
theorem isPtrT_5 : isPtrT Try.prog 5 = false := by kernel_rfl
theorem isU8T_5 : isU8T Try.prog 5 = true := by kernel_rfl
theorem szOf_22 : szOf Try.prog 22 = some 1 := by kernel_rfl
theorem isAgg_22 : isAggB Try.prog 22 = some false := by kernel_rfl
theorem bytesOf_22 : bytesOf Try.prog 22 = some 24 := by kernel_rfl
theorem zOk_22 : zOk Try.prog 22 1 = true := by kernel_rfl
theorem zSome_22 : (zeroOf Try.prog 22).isSome = true := by kernel_rfl
theorem isBoolT_22 : isBoolT Try.prog 22 = false := by kernel_rfl
theorem isPtrT_22 : isPtrT Try.prog 22 = false := by kernel_rfl
theorem isU8T_22 : isU8T Try.prog 22 = false := by kernel_rfl
theorem szOf_23 : szOf Try.prog 23 = some 1 := by kernel_rfl
theorem isAgg_23 : isAggB Try.prog 23 = some false := by kernel_rfl
theorem bytesOf_23 : bytesOf Try.prog 23 = some 24 := by kernel_rfl
theorem zOk_23 : zOk Try.prog 23 1 = true := by kernel_rfl
theorem zSome_23 : (zeroOf Try.prog 23).isSome = true := by kernel_rfl
theorem isBoolT_23 : isBoolT Try.prog 23 = false := by kernel_rfl
theorem isPtrT_23 : isPtrT Try.prog 23 = false := by kernel_rfl
theorem isU8T_23 : isU8T Try.prog 23 = false := by kernel_rfl
theorem szOf_24 : szOf Try.prog 24 = some 3 := by kernel_rfl
theorem isAgg_24 : isAggB Try.prog 24 = some true := by kernel_rfl
theorem bytesOf_24 : bytesOf Try.prog 24 = some 56 := by kernel_rfl
theorem zOk_24 : zOk Try.prog 24 3 = true := by kernel_rfl
theorem zSome_24 : (zeroOf Try.prog 24).isSome = true := by kernel_rfl
theorem isBoolT_24 : isBoolT Try.prog 24 = false := by kernel_rfl
theorem isPtrT_24 : isPtrT Try.prog 24 = false := by kernel_rfl
theorem isU8T_24 : isU8T Try.prog 24 = false := by kernel_rfl
theorem szOf_25 : szOf Try.prog 25 = some 3 := by kernel_rfl
theorem isAgg_25 : isAggB Try.prog 25 = some true := by kernel_rfl
theorem bytesOf_25 : bytesOf Try.prog 25 = some 56 := by kernel_rfl
theorem zeroOf_25 : zeroOf Try.prog 25 = some (.agg #[.slice none 0 0, .int .i64 0, .slice none 0 0]) := by kernel_rfl
theorem zOk_25 : zOk Try.prog 25 3 = true := by kernel_rfl
theorem zSome_25 : (zeroOf Try.prog 25).isSome = true := by kernel_rfl
theorem isBoolT_25 : isBoolT Try.prog 25 = false := by kernel_rfl
theorem isPtrT_25 : isPtrT Try.prog 25 = false := by kernel_rfl
theorem isU8T_25 : isU8T Try.prog 25 = false := by kernel_rfl
theorem szOf_28 : szOf Try.prog 28 = some 1 := by kernel_rfl
theorem isAgg_28 : isAggB Try.prog 28 = some false := by kernel_rfl
theorem bytesOf_28 : bytesOf Try.prog 28 = some 24 := by kernel_rfl
theorem zOk_28 : zOk Try.prog 28 1 = true := by kernel_rfl
theorem zSome_28 : (zeroOf Try.prog 28).isSome = true := by kernel_rfl
theorem isBoolT_28 : isBoolT Try.prog 28 = false := by kernel_rfl
theorem isPtrT_28 : isPtrT Try.prog 28 = false := by kernel_rfl
theorem isU8T_28 : isU8T Try.prog 28 = false := by kernel_rfl
theorem szOf_31 : szOf Try.prog 31 = some 1 := by kernel_rfl
theorem isAgg_31 : isAggB Try.prog 31 = some false := by kernel_rfl
theorem bytesOf_31 : bytesOf Try.prog 31 = some 24 := by kernel_rfl
theorem zOk_31 : zOk Try.prog 31 1 = true := by kernel_rfl
theorem zSome_31 : (zeroOf Try.prog 31).isSome = true := by kernel_rfl
theorem isBoolT_31 : isBoolT Try.prog 31 = false := by kernel_rfl
theorem isPtrT_31 : isPtrT Try.prog 31 = false := by kernel_rfl
theorem isU8T_31 : isU8T Try.prog 31 = false := by kernel_rfl
theorem szOf_33 : szOf Try.prog 33 = some 16 := by kernel_rfl
theorem isAgg_33 : isAggB Try.prog 33 = some true := by kernel_rfl
theorem bytesOf_33 : bytesOf Try.prog 33 = some 128 := by kernel_rfl
theorem zOk_33 : zOk Try.prog 33 16 = true := by kernel_rfl
theorem zSome_33 : (zeroOf Try.prog 33).isSome = true := by kernel_rfl
theorem isBoolT_33 : isBoolT Try.prog 33 = false := by kernel_rfl
theorem isPtrT_33 : isPtrT Try.prog 33 = false := by kernel_rfl
theorem isU8T_33 : isU8T Try.prog 33 = false := by kernel_rfl
theorem szOf_34 : szOf Try.prog 34 = some 17 := by kernel_rfl
theorem isAgg_34 : isAggB Try.prog 34 = some true := by kernel_rfl
theorem bytesOf_34 : bytesOf Try.prog 34 = some 152 := by kernel_rfl
theorem zOk_34 : zOk Try.prog 34 17 = true := by kernel_rfl
theorem zSome_34 : (zeroOf Try.prog 34).isSome = true := by kernel_rfl
theorem isBoolT_34 : isBoolT Try.prog 34 = false := by kernel_rfl
theorem isPtrT_34 : isPtrT Try.prog 34 = false := by kernel_rfl
theorem isU8T_34 : isU8T Try.prog 34 = false := by kernel_rfl
theorem szOf_35 : szOf Try.prog 35 = some 17 := by kernel_rfl
theorem isAgg_35 : isAggB Try.prog 35 = some true := by kernel_rfl
theorem bytesOf_35 : bytesOf Try.prog 35 = some 152 := by kernel_rfl
theorem zOk_35 : zOk Try.prog 35 17 = true := by kernel_rfl
theorem zSome_35 : (zeroOf Try.prog 35).isSome = true := by kernel_rfl
theorem isBoolT_35 : isBoolT Try.prog 35 = false := by kernel_rfl
theorem isPtrT_35 : isPtrT Try.prog 35 = false := by kernel_rfl
theorem isU8T_35 : isU8T Try.prog 35 = false := by kernel_rfl
theorem szOf_36 : szOf Try.prog 36 = some 1 := by kernel_rfl
theorem isAgg_36 : isAggB Try.prog 36 = some false := by kernel_rfl
theorem bytesOf_36 : bytesOf Try.prog 36 = some 24 := by kernel_rfl
theorem zOk_36 : zOk Try.prog 36 1 = true := by kernel_rfl
theorem zSome_36 : (zeroOf Try.prog 36).isSome = true := by kernel_rfl
theorem isBoolT_36 : isBoolT Try.prog 36 = false := by kernel_rfl
theorem isPtrT_36 : isPtrT Try.prog 36 = false := by kernel_rfl
theorem isU8T_36 : isU8T Try.prog 36 = false := by kernel_rfl
theorem szOf_37 : szOf Try.prog 37 = some 6 := by kernel_rfl
theorem isAgg_37 : isAggB Try.prog 37 = some true := by kernel_rfl
theorem bytesOf_37 : bytesOf Try.prog 37 = some 80 := by kernel_rfl
theorem zOk_37 : zOk Try.prog 37 6 = true := by kernel_rfl
theorem zSome_37 : (zeroOf Try.prog 37).isSome = true := by kernel_rfl
theorem isBoolT_37 : isBoolT Try.prog 37 = false := by kernel_rfl
theorem isPtrT_37 : isPtrT Try.prog 37 = false := by kernel_rfl
theorem isU8T_37 : isU8T Try.prog 37 = false := by kernel_rfl
theorem szOf_38 : szOf Try.prog 38 = some 6 := by kernel_rfl
theorem isAgg_38 : isAggB Try.prog 38 = some true := by kernel_rfl
theorem bytesOf_38 : bytesOf Try.prog 38 = some 80 := by kernel_rfl
theorem zeroOf_38 : zeroOf Try.prog 38 = some (.agg #[.int .i64 0, .int .i64 0, .int .i64 0, .int .i64 0, .slice none 0 0, .slice none 0 0]) := by kernel_rfl
theorem zOk_38 : zOk Try.prog 38 6 = true := by kernel_rfl
theorem zSome_38 : (zeroOf Try.prog 38).isSome = true := by kernel_rfl
theorem isBoolT_38 : isBoolT Try.prog 38 = false := by kernel_rfl
theorem isPtrT_38 : isPtrT Try.prog 38 = false := by kernel_rfl
theorem isU8T_38 : isU8T Try.prog 38 = false := by kernel_rfl
theorem szOf_40 : szOf Try.prog 40 = some 5 := by kernel_rfl
theorem isAgg_40 : isAggB Try.prog 40 = some true := by kernel_rfl
theorem bytesOf_40 : bytesOf Try.prog 40 = some 40 := by kernel_rfl
theorem zOk_40 : zOk Try.prog 40 5 = true := by kernel_rfl
theorem zSome_40 : (zeroOf Try.prog 40).isSome = true := by kernel_rfl
theorem isBoolT_40 : isBoolT Try.prog 40 = false := by kernel_rfl
theorem isPtrT_40 : isPtrT Try.prog 40 = false := by kernel_rfl
theorem isU8T_40 : isU8T Try.prog 40 = false := by kernel_rfl
theorem szOf_41 : szOf Try.prog 41 = some 5 := by kernel_rfl
theorem isAgg_41 : isAggB Try.prog 41 = some true := by kernel_rfl
theorem bytesOf_41 : bytesOf Try.prog 41 = some 40 := by kernel_rfl
theorem zeroOf_41 : zeroOf Try.prog 41 = some (.agg #[.int .i64 0, .int .i64 0, .int .i64 0, .int .i64 0, .int .i64 0]) := by kernel_rfl
theorem zOk_41 : zOk Try.prog 41 5 = true := by kernel_rfl
theorem zSome_41 : (zeroOf Try.prog 41).isSome = true := by kernel_rfl
theorem isBoolT_41 : isBoolT Try.prog 41 = false := by kernel_rfl
theorem isPtrT_41 : isPtrT Try.prog 41 = false := by kernel_rfl
theorem isU8T_41 : isU8T Try.prog 41 = false := by kernel_rfl
theorem szOf_50 : szOf Try.prog 50 = some 1 := by kernel_rfl
theorem isAgg_50 : isAggB Try.prog 50 = some false := by kernel_rfl
theorem bytesOf_50 : bytesOf Try.prog 50 = some 24 := by kernel_rfl
theorem zOk_50 : zOk Try.prog 50 1 = true := by kernel_rfl
theorem zSome_50 : (zeroOf Try.prog 50).isSome = true := by kernel_rfl
theorem isBoolT_50 : isBoolT Try.prog 50 = false := by kernel_rfl
theorem isPtrT_50 : isPtrT Try.prog 50 = false := by kernel_rfl
theorem isU8T_50 : isU8T Try.prog 50 = false := by kernel_rfl
theorem szOf_58 : szOf Try.prog 58 = some 1 := by kernel_rfl
theorem isAgg_58 : isAggB Try.prog 58 = some false := by kernel_rfl
theorem bytesOf_58 : bytesOf Try.prog 58 = some 8 := by kernel_rfl
theorem zOk_58 : zOk Try.prog 58 1 = true := by kernel_rfl
theorem zSome_58 : (zeroOf Try.prog 58).isSome = true := by kernel_rfl
theorem isBoolT_58 : isBoolT Try.prog 58 = false := by kernel_rfl
theorem isPtrT_58 : isPtrT Try.prog 58 = false := by kernel_rfl
theorem isU8T_58 : isU8T Try.prog 58 = false := by kernel_rfl
theorem szOf_62 : szOf Try.prog 62 = some 1 := by kernel_rfl
theorem isAgg_62 : isAggB Try.prog 62 = some false := by kernel_rfl
theorem bytesOf_62 : bytesOf Try.prog 62 = some 8 := by kernel_rfl
theorem zOk_62 : zOk Try.prog 62 1 = true := by kernel_rfl
theorem zSome_62 : (zeroOf Try.prog 62).isSome = true := by kernel_rfl
theorem isBoolT_62 : isBoolT Try.prog 62 = false := by kernel_rfl
theorem isPtrT_62 : isPtrT Try.prog 62 = false := by kernel_rfl
theorem isU8T_62 : isU8T Try.prog 62 = false := by kernel_rfl
theorem szOf_63 : szOf Try.prog 63 = some 9 := by kernel_rfl
theorem isAgg_63 : isAggB Try.prog 63 = some true := by kernel_rfl
theorem bytesOf_63 : bytesOf Try.prog 63 = some 72 := by kernel_rfl
theorem zOk_63 : zOk Try.prog 63 9 = true := by kernel_rfl
theorem zSome_63 : (zeroOf Try.prog 63).isSome = true := by kernel_rfl
theorem isBoolT_63 : isBoolT Try.prog 63 = false := by kernel_rfl
theorem isPtrT_63 : isPtrT Try.prog 63 = false := by kernel_rfl
theorem isU8T_63 : isU8T Try.prog 63 = false := by kernel_rfl
theorem szOf_64 : szOf Try.prog 64 = some 9 := by kernel_rfl
theorem isAgg_64 : isAggB Try.prog 64 = some true := by kernel_rfl
theorem bytesOf_64 : bytesOf Try.prog 64 = some 72 := by kernel_rfl
theorem zOk_64 : zOk Try.prog 64 9 = true := by kernel_rfl
theorem zSome_64 : (zeroOf Try.prog 64).isSome = true := by kernel_rfl
theorem isBoolT_64 : isBoolT Try.prog 64 = false := by kernel_rfl
theorem isPtrT_64 : isPtrT Try.prog 64 = false := by kernel_rfl
theorem isU8T_64 : isU8T Try.prog 64 = false := by kernel_rfl
theorem szOf_72 : szOf Try.prog 72 = some 1 := by kernel_rfl
theorem isAgg_72 : isAggB Try.prog 72 = some false := by kernel_rfl
theorem bytesOf_72 : bytesOf Try.prog 72 = some 8 := by kernel_rfl
theorem zOk_72 : zOk Try.prog 72 1 = true := by kernel_rfl
theorem zSome_72 : (zeroOf Try.prog 72).isSome = true := by kernel_rfl
theorem isBoolT_72 : isBoolT Try.prog 72 = false := by kernel_rfl
theorem isPtrT_72 : isPtrT Try.prog 72 = false := by kernel_rfl
theorem isU8T_72 : isU8T Try.prog 72 = false := by kernel_rfl
theorem szOf_81 : szOf Try.prog 81 = some 1 := by kernel_rfl
theorem isAgg_81 : isAggB Try.prog 81 = some false := by kernel_rfl
theorem bytesOf_81 : bytesOf Try.prog 81 = some 8 := by kernel_rfl
theorem zOk_81 : zOk Try.prog 81 1 = true := by kernel_rfl
theorem zSome_81 : (zeroOf Try.prog 81).isSome = true := by kernel_rfl
theorem isBoolT_81 : isBoolT Try.prog 81 = false := by kernel_rfl
theorem isPtrT_81 : isPtrT Try.prog 81 = false := by kernel_rfl
theorem isU8T_81 : isU8T Try.prog 81 = false := by kernel_rfl
theorem szOf_82 : szOf Try.prog 82 = some 1 := by kernel_rfl
theorem isAgg_82 : isAggB Try.prog 82 = some false := by kernel_rfl
theorem bytesOf_82 : bytesOf Try.prog 82 = some 8 := by kernel_rfl
theorem zeroOf_82 : zeroOf Try.prog 82 = some (.int .u64 0) := by kernel_rfl
theorem zOk_82 : zOk Try.prog 82 1 = true := by kernel_rfl
theorem zSome_82 : (zeroOf Try.prog 82).isSome = true := by kernel_rfl
theorem isBoolT_82 : isBoolT Try.prog 82 = false := by kernel_rfl
theorem isPtrT_82 : isPtrT Try.prog 82 = false := by kernel_rfl
theorem isU8T_82 : isU8T Try.prog 82 = false := by kernel_rfl
theorem szOf_86 : szOf Try.prog 86 = some 1 := by kernel_rfl
theorem isAgg_86 : isAggB Try.prog 86 = some false := by kernel_rfl
theorem bytesOf_86 : bytesOf Try.prog 86 = some 8 := by kernel_rfl
theorem zOk_86 : zOk Try.prog 86 1 = true := by kernel_rfl
theorem zSome_86 : (zeroOf Try.prog 86).isSome = true := by kernel_rfl
theorem isBoolT_86 : isBoolT Try.prog 86 = false := by kernel_rfl
theorem isPtrT_86 : isPtrT Try.prog 86 = true := by kernel_rfl
theorem isU8T_86 : isU8T Try.prog 86 = false := by kernel_rfl
theorem fieldV_25_0 : fieldV Try.prog 25 0 = some 0 := by kernel_rfl
theorem fieldV_25_1 : fieldV Try.prog 25 1 = some 1 := by kernel_rfl
theorem fieldV_25_2 : fieldV Try.prog 25 2 = some 2 := by kernel_rfl
theorem fieldV_35_0 : fieldV Try.prog 35 0 = some 0 := by kernel_rfl
theorem fieldV_35_1 : fieldV Try.prog 35 1 = some 1 := by kernel_rfl
theorem fieldV_38_0 : fieldV Try.prog 38 0 = some 0 := by kernel_rfl
theorem fieldV_38_1 : fieldV Try.prog 38 1 = some 1 := by kernel_rfl
theorem fieldV_38_2 : fieldV Try.prog 38 2 = some 2 := by kernel_rfl
theorem fieldV_38_3 : fieldV Try.prog 38 3 = some 3 := by kernel_rfl
theorem fieldV_38_4 : fieldV Try.prog 38 4 = some 4 := by kernel_rfl
theorem fieldV_38_5 : fieldV Try.prog 38 5 = some 5 := by kernel_rfl
theorem fieldV_41_0 : fieldV Try.prog 41 0 = some 0 := by kernel_rfl
theorem fieldV_41_1 : fieldV Try.prog 41 1 = some 1 := by kernel_rfl
theorem fieldV_41_2 : fieldV Try.prog 41 2 = some 2 := by kernel_rfl
theorem fieldV_41_3 : fieldV Try.prog 41 3 = some 3 := by kernel_rfl
theorem fieldV_41_4 : fieldV Try.prog 41 4 = some 4 := by kernel_rfl
theorem buildC_25 (parts : List (Nat × V)) : buildC Try.prog 25 parts = fillC (#[(0, 1), (1, 1), (2, 1)][·]?) [V.s (.slice none 0 0), V.s (.int .i64 0), V.s (.slice none 0 0)] parts := by kernel_rfl
theorem buildC_35 (parts : List (Nat × V)) : buildC Try.prog 35 parts = fillC (#[(0, 1), (1, 16)][·]?) [V.s (.slice none 0 0), V.s (.int .i64 0), V.s (.int .i64 0), V.s (.int .i64 0), V.s (.int .i64 0), V.s (.int .i64 0), V.s (.int .i64 0), V.s (.int .i64 0), V.s (.int .i64 0), V.s (.int .i64 0), V.s (.int .i64 0), V.s (.int .i64 0), V.s (.int .i64 0), V.s (.int .i64 0), V.s (.int .i64 0), V.s (.int .i64 0), V.s (.int .i64 0)] parts := by kernel_rfl
theorem buildC_38 (parts : List (Nat × V)) : buildC Try.prog 38 parts = fillC (#[(0, 1), (1, 1), (2, 1), (3, 1), (4, 1), (5, 1)][·]?) [V.s (.int .i64 0), V.s (.int .i64 0), V.s (.int .i64 0), V.s (.int .i64 0), V.s (.slice none 0 0), V.s (.slice none 0 0)] parts := by kernel_rfl
theorem buildC_41 (parts : List (Nat × V)) : buildC Try.prog 41 parts = fillC (#[(0, 1), (1, 1), (2, 1), (3, 1), (4, 1)][·]?) [V.s (.int .i64 0), V.s (.int .i64 0), V.s (.int .i64 0), V.s (.int .i64 0), V.s (.int .i64 0)] parts := by kernel_rfl
/-- types of whole numbers alone that are held against each other -/
def eqT : EqT := fun t => t == 33 || t == 64
theorem eqT_ok : EqOk Try.prog eqT := eqOk_flat fun t ht => by
  simp only [eqT, Bool.or_eq_true, beq_iff_eq] at ht
  rcases ht with rfl | rfl <;> kernel_rfl
theorem eqT_33 : eqT 33 = true := by kernel_rfl
theorem eqT_64 : eqT 64 = true := by kernel_rfl
theorem mixed : Try.prog.follows .mixedOrders = true := by kernel_rfl
attribute [go_sem high] Try.underlying3 szOf_3 isAgg_3 bytesOf_3 zeroOf_3 zOk_3 zSome_3 isBoolT_3 isPtrT_3 isU8T_3 Try.underlying4 szOf_4 isAgg_4 bytesOf_4 zeroOf_4 zOk_4 zSome_4 isBoolT_4 isPtrT_4 isU8T_4 Try.underlying5 szOf_5 isAgg_5 bytesOf_5 zOk_5 zSome_5 isBoolT_5 isPtrT_5 isU8T_5 Try.underlying22 szOf_22 isAgg_22 bytesOf_22 zOk_22 zSome_22 isBoolT_22 isPtrT_22 isU8T_22 Try.underlying23 szOf_23 isAgg_23 bytesOf_23 zOk_23 zSome_23 isBoolT_23 isPtrT_23 isU8T_23 Try.underlying24 szOf_24 isAgg_24 bytesOf_24 zOk_24 zSome_24 isBoolT_24 isPtrT_24 isU8T_24 Try.underlying25 szOf_25 isAgg_25 bytesOf_25 zeroOf_25 zOk_25 zSome_25 isBoolT_25 isPtrT_25 isU8T_25 Try.underlying28 szOf_28 isAgg_28 bytesOf_28 zOk_28 zSome_28 isBoolT_28 isPtrT_28 isU8T_28 Try.underlying31 szOf_31 isAgg_31 bytesOf_31 zOk_31 zSome_31 isBoolT_31 isPtrT_31 isU8T_31 Try.underlying33 szOf_33 isAgg_33 bytesOf_33 zOk_33 zSome_33 isBoolT_33 isPtrT_33 isU8T_33 Try.underlying34 szOf_34 isAgg_34 bytesOf_34 zOk_34 zSome_34 isBoolT_34 isPtrT_34 isU8T_34 Try.underlying35 szOf_35 isAgg_35 bytesOf_35 zOk_35 zSome_35 isBoolT_35 isPtrT_35 isU8T_35 Try.underlying36 szOf_36 isAgg_36 bytesOf_36 zOk_36 zSome_36 isBoolT_36 isPtrT_36 isU8T_36 Try.underlying37 szOf_37 isAgg_37 bytesOf_37 zOk_37 zSome_37 isBoolT_37 isPtrT_37 isU8T_37 Try.underlying38 szOf_38 isAgg_38 bytesOf_38 zeroOf_38 zOk_38 zSome_38 isBoolT_38 isPtrT_38 isU8T_38 Try.underlying40 szOf_40 isAgg_40 bytesOf_40 zOk_40 zSome_40 isBoolT_40 isPtrT_40 isU8T_40 Try.underlying41 szOf_41 isAgg_41 bytesOf_41 zeroOf_41 zOk_41 zSome_41 isBoolT_41 isPtrT_41 isU8T_41 Try.underlying50 szOf_50 isAgg_50 bytesOf_50 zOk_50 zSome_50 isBoolT_50 isPtrT_50 isU8T_50 Try.underlying58 szOf_58 isAgg_58 bytesOf_58 zOk_58 zSome_58 isBoolT_58 isPtrT_58 isU8T_58 Try.underlying62 szOf_62 isAgg_62 bytesOf_62 zOk_62 zSome_62 isBoolT_62 isPtrT_62 isU8T_62 Try.underlying63 szOf_63 isAgg_63 bytesOf_63 zOk_63 zSome_63 isBoolT_63 isPtrT_63 isU8T_63 Try.underlying64 szOf_64 isAgg_64 bytesOf_64 zOk_64 zSome_64 isBoolT_64 isPtrT_64 isU8T_64 Try.underlying72 szOf_72 isAgg_72 bytesOf_72 zOk_72 zSome_72 isBoolT_72 isPtrT_72 isU8T_72 Try.underlying81 szOf_81 isAgg_81 bytesOf_81 zOk_81 zSome_81 isBoolT_81 isPtrT_81 isU8T_81 Try.underlying82 szOf_82 isAgg_82 bytesOf_82 zeroOf_82 zOk_82 zSome_82 isBoolT_82 isPtrT_82 isU8T_82 Try.underlying86 szOf_86 isAgg_86 bytesOf_86 zOk_86 zSome_86 isBoolT_86 isPtrT_86 isU8T_86 fieldV_25_0 fieldV_25_1 fieldV_25_2 fieldV_35_0 fieldV_35_1 fieldV_38_0 fieldV_38_1 fieldV_38_2 fieldV_38_3 fieldV_38_4 fieldV_38_5 fieldV_41_0 fieldV_41_1 fieldV_41_2 fieldV_41_3 fieldV_41_4 buildC_25 buildC_35 buildC_38 buildC_41 eqT_33 eqT_64

end Go.Proofs.Ytbmgaebhcomjaaa
