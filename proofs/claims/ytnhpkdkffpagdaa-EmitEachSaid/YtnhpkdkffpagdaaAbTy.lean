/-
Facts about the types of this program, as the kernel reckons them. No condition.
-/
import Derived.Test.YtnhpkdkffpagdaaProg
import Derived.Test.YtnhpkdkffpagdaaAbE
import Derived.KernelRfl
namespace Go.Proofs.Ytnhpkdkffpagdaa

theorem szOf_3 : szOf Try.prog 3 = some 1 := by kernel_rfl
theorem isAgg_3 : isAggB Try.prog 3 = some false := by kernel_rfl
theorem bytesOf_3 : bytesOf Try.prog 3 = some 8 := by kernel_rfl
theorem zOk_3 : zOk Try.prog 3 1 = true := by kernel_rfl
theorem zSome_3 : (zeroOf Try.prog 3).isSome = true := by kernel_rfl
theorem isBoolT_3 : isBoolT Try.prog 3 = false := by kernel_rfl
theorem isPtrT_3 : isPtrT Try.prog 3 = false := by kernel_rfl
theorem isU8T_3 : isU8T Try.prog 3 = false := by kernel_rfl
theorem szOf_4 : szOf Try.prog 4 = some 1 := by kernel_rfl
theorem isAgg_4 : isAggB Try.prog 4 = some false := by kernel_rfl
theorem bytesOf_4 : bytesOf Try.prog 4 = some 1 := by kernel_rfl
theorem zOk_4 : zOk Try.prog 4 1 = true := by kernel_rfl
theorem zSome_4 : (zeroOf Try.prog 4).isSome = true := by kernel_rfl
theorem isBoolT_4 : isBoolT Try.prog 4 = true := by kernel_rfl
theorem isPtrT_4 : isPtrT Try.prog 4 = false := by kernel_rfl
theorem isU8T_4 : isU8T Try.prog 4 = false := by kernel_rfl
theorem szOf_5 : szOf Try.prog 5 = some 1 := by kernel_rfl
theorem isAgg_5 : isAggB Try.prog 5 = some false := by kernel_rfl
theorem bytesOf_5 : bytesOf Try.prog 5 = some 1 := by kernel_rfl
theorem zOk_5 : zOk Try.prog 5 1 = true := by kernel_rfl
theorem zSome_5 : (zeroOf Try.prog 5).isSome = true := by kernel_rfl
theorem isBoolT_5 : isBoolT Try.prog 5 = false := by kernel_rfl
theorem isPtrT_5 : isPtrT Try.prog 5 = false := by kernel_rfl
theorem isU8T_5 : isU8T Try.prog 5 = true := by kernel_rfl
theorem szOf_22 : szOf Try.prog 22 = some 1 := by kernel_rfl
theorem isAgg_22 : isAggB Try.prog 22 = some false := by kernel_rfl
theorem bytesOf_22 : bytesOf Try.prog 22 = some 24 := by kernel_rfl
theorem zOk_22 : zOk Try.prog 22 1 = true := by kernel_rfl
theorem zSome_22 : (zeroOf Try.prog 22).isSome = true := by kernel_rfl
theorem isBoolT_22 : isBoolT Try.prog 22 = false := by kernel_rfl
theorem isPtrT_22 : isPtrT Try.prog 22 = false := by kernel_rfl
theorem isU8T_22 : isU8T Try.prog 22 = false := by kernel_rfl
theorem szOf_23 : szOf Try.prog 23 = some 1 := by kernel_rfl
theorem isAgg_23 : isAggB Try.prog 23 = some false := by kernel_rfl
theorem bytesOf_23 : bytesOf Try.prog 23 = some 24 := by kernel_rfl
theorem zOk_23 : zOk Try.prog 23 1 = true := by kernel_rfl
theorem zSome_23 : (zeroOf Try.prog 23).isSome = true := by kernel_rfl
theorem isBoolT_23 : isBoolT Try.prog 23 = false := by kernel_rfl
theorem isPtrT_23 : isPtrT Try.prog 23 = false := by kernel_rfl
theorem isU8T_23 : isU8T Try.prog 23 = false := by kernel_rfl
theorem szOf_24 : szOf Try.prog 24 = some 3 := by kernel_rfl
theorem isAgg_24 : isAggB Try.prog 24 = some true := by kernel_rfl
theorem bytesOf_24 : bytesOf Try.prog 24 = some 56 := by kernel_rfl
theorem zOk_24 : zOk Try.prog 24 3 = true := by kernel_rfl
theorem zSome_24 : (zeroOf Try.prog 24).isSome = true := by kernel_rfl
theorem isBoolT_24 : isBoolT Try.prog 24 = false := by kernel_rfl
theorem isPtrT_24 : isPtrT Try.prog 24 = false := by kernel_rfl
theorem isU8T_24 : isU8T Try.prog 24 = false := by kernel_rfl
theorem szOf_25 : szOf Try.prog 25 = some 3 := by kernel_rfl
theorem isAgg_25 : isAggB Try.prog 25 = some true := by kernel_rfl
theorem bytesOf_25 : bytesOf Try.prog 25 = some 56 := by kernel_rfl
theorem zeroOf_25 : zeroOf Try.prog 25 = some (.agg #[.slice none 0 0, .int .i64 0, .slice none 0 0]) := by kernel_rfl
theorem zOk_25 : zOk Try.prog 25 3 = true := by kernel_rfl
theorem zSome_25 : (zeroOf Try.prog 25).isSome = true := by kernel_rfl
theorem isBoolT_25 : isBoolT Try.prog 25 = false := by kernel_rfl
theorem isPtrT_25 : isPtrT Try.prog 25 = false := by kernel_rfl
theorem isU8T_25 : isU8T Try.prog 25 = false := by kernel_rfl
theorem szOf_26 : szOf Try.prog 26 = some 16 := by kernel_rfl
theorem isAgg_26 : isAggB Try.prog 26 = some true := by kernel_rfl
theorem bytesOf_26 : bytesOf Try.prog 26 = some 128 := by kernel_rfl
theorem zeroOf_26 : zeroOf Try.prog 26 = some (.agg #[.int .i64 0, .int .i64 0, .int .i64 0, .int .i64 0, .int .i64 0, .int .i64 0, .int .i64 0, .int .i64 0, .int .i64 0, .int .i64 0, .int .i64 0, .int .i64 0, .int .i64 0, .int .i64 0, .int .i64 0, .int .i64 0]) := by kernel_rfl
theorem zOk_26 : zOk Try.prog 26 16 = true := by kernel_rfl
theorem zSome_26 : (zeroOf Try.prog 26).isSome = true := by kernel_rfl
theorem isBoolT_26 : isBoolT Try.prog 26 = false := by kernel_rfl
theorem isPtrT_26 : isPtrT Try.prog 26 = false := by kernel_rfl
theorem isU8T_26 : isU8T Try.prog 26 = false := by kernel_rfl
theorem szOf_27 : szOf Try.prog 27 = some 5 := by kernel_rfl
theorem isAgg_27 : isAggB Try.prog 27 = some true := by kernel_rfl
theorem bytesOf_27 : bytesOf Try.prog 27 = some 40 := by kernel_rfl
theorem zOk_27 : zOk Try.prog 27 5 = true := by kernel_rfl
theorem zSome_27 : (zeroOf Try.prog 27).isSome = true := by kernel_rfl
theorem isBoolT_27 : isBoolT Try.prog 27 = false := by kernel_rfl
theorem isPtrT_27 : isPtrT Try.prog 27 = false := by kernel_rfl
theorem isU8T_27 : isU8T Try.prog 27 = false := by kernel_rfl
theorem szOf_28 : szOf Try.prog 28 = some 5 := by kernel_rfl
theorem isAgg_28 : isAggB Try.prog 28 = some true := by kernel_rfl
theorem bytesOf_28 : bytesOf Try.prog 28 = some 40 := by kernel_rfl
theorem zeroOf_28 : zeroOf Try.prog 28 = some (.agg #[.int .i64 0, .int .i64 0, .int .i64 0, .int .i64 0, .int .i64 0]) := by kernel_rfl
theorem zOk_28 : zOk Try.prog 28 5 = true := by kernel_rfl
theorem zSome_28 : (zeroOf Try.prog 28).isSome = true := by kernel_rfl
theorem isBoolT_28 : isBoolT Try.prog 28 = false := by kernel_rfl
theorem isPtrT_28 : isPtrT Try.prog 28 = false := by kernel_rfl
theorem isU8T_28 : isU8T Try.prog 28 = false := by kernel_rfl
theorem szOf_41 : szOf Try.prog 41 = some 1 := by kernel_rfl
theorem isAgg_41 : isAggB Try.prog 41 = some false := by kernel_rfl
theorem bytesOf_41 : bytesOf Try.prog 41 = some 24 := by kernel_rfl
theorem zOk_41 : zOk Try.prog 41 1 = true := by kernel_rfl
theorem zSome_41 : (zeroOf Try.prog 41).isSome = true := by kernel_rfl
theorem isBoolT_41 : isBoolT Try.prog 41 = false := by kernel_rfl
theorem isPtrT_41 : isPtrT Try.prog 41 = false := by kernel_rfl
theorem isU8T_41 : isU8T Try.prog 41 = false := by kernel_rfl
theorem szOf_48 : szOf Try.prog 48 = some 13 := by kernel_rfl
theorem isAgg_48 : isAggB Try.prog 48 = some true := by kernel_rfl
theorem bytesOf_48 : bytesOf Try.prog 48 = some 104 := by kernel_rfl
theorem zeroOf_48 : zeroOf Try.prog 48 = some (.agg #[.int .i64 0, .int .i64 0, .int .i64 0, .int .i64 0, .int .i64 0, .int .i64 0, .int .i64 0, .int .i64 0, .int .i64 0, .int .i64 0, .int .i64 0, .int .i64 0, .int .i64 0]) := by kernel_rfl
theorem zOk_48 : zOk Try.prog 48 13 = true := by kernel_rfl
theorem zSome_48 : (zeroOf Try.prog 48).isSome = true := by kernel_rfl
theorem isBoolT_48 : isBoolT Try.prog 48 = false := by kernel_rfl
theorem isPtrT_48 : isPtrT Try.prog 48 = false := by kernel_rfl
theorem isU8T_48 : isU8T Try.prog 48 = false := by kernel_rfl
theorem szOf_49 : szOf Try.prog 49 = some 1 := by kernel_rfl
theorem isAgg_49 : isAggB Try.prog 49 = some false := by kernel_rfl
theorem bytesOf_49 : bytesOf Try.prog 49 = some 24 := by kernel_rfl
theorem zOk_49 : zOk Try.prog 49 1 = true := by kernel_rfl
theorem zSome_49 : (zeroOf Try.prog 49).isSome = true := by kernel_rfl
theorem isBoolT_49 : isBoolT Try.prog 49 = false := by kernel_rfl
theorem isPtrT_49 : isPtrT Try.prog 49 = false := by kernel_rfl
theorem isU8T_49 : isU8T Try.prog 49 = false := by kernel_rfl
theorem szOf_50 : szOf Try.prog 50 = some 9 := by kernel_rfl
theorem isAgg_50 : isAggB Try.prog 50 = some true := by kernel_rfl
theorem bytesOf_50 : bytesOf Try.prog 50 = some 72 := by kernel_rfl
theorem zOk_50 : zOk Try.prog 50 9 = true := by kernel_rfl
theorem zSome_50 : (zeroOf Try.prog 50).isSome = true := by kernel_rfl
theorem isBoolT_50 : isBoolT Try.prog 50 = false := by kernel_rfl
theorem isPtrT_50 : isPtrT Try.prog 50 = false := by kernel_rfl
theorem isU8T_50 : isU8T Try.prog 50 = false := by kernel_rfl
theorem szOf_51 : szOf Try.prog 51 = some 9 := by kernel_rfl
theorem isAgg_51 : isAggB Try.prog 51 = some true := by kernel_rfl
theorem bytesOf_51 : bytesOf Try.prog 51 = some 72 := by kernel_rfl
theorem zeroOf_51 : zeroOf Try.prog 51 = some (.agg #[.int .i64 0, .int .i64 0, .int .i64 0, .int .i64 0, .int .i64 0, .int .i64 0, .int .i64 0, .int .i64 0, .int .i64 0]) := by kernel_rfl
theorem zOk_51 : zOk Try.prog 51 9 = true := by kernel_rfl
theorem zSome_51 : (zeroOf Try.prog 51).isSome = true := by kernel_rfl
theorem isBoolT_51 : isBoolT Try.prog 51 = false := by kernel_rfl
theorem isPtrT_51 : isPtrT Try.prog 51 = false := by kernel_rfl
theorem isU8T_51 : isU8T Try.prog 51 = false := by kernel_rfl
theorem szOf_55 : szOf Try.prog 55 = some 1 := by kernel_rfl
theorem isAgg_55 : isAggB Try.prog 55 = some false := by kernel_rfl
theorem bytesOf_55 : bytesOf Try.prog 55 = some 24 := by kernel_rfl
theorem zOk_55 : zOk Try.prog 55 1 = true := by kernel_rfl
theorem zSome_55 : (zeroOf Try.prog 55).isSome = true := by kernel_rfl
theorem isBoolT_55 : isBoolT Try.prog 55 = false := by kernel_rfl
theorem isPtrT_55 : isPtrT Try.prog 55 = false := by kernel_rfl
theorem isU8T_55 : isU8T Try.prog 55 = false := by kernel_rfl
theorem szOf_59 : szOf Try.prog 59 = some 1 := by kernel_rfl
theorem isAgg_59 : isAggB Try.prog 59 = some false := by kernel_rfl
theorem bytesOf_59 : bytesOf Try.prog 59 = some 8 := by kernel_rfl
theorem zOk_59 : zOk Try.prog 59 1 = true := by kernel_rfl
theorem zSome_59 : (zeroOf Try.prog 59).isSome = true := by kernel_rfl
theorem isBoolT_59 : isBoolT Try.prog 59 = false := by kernel_rfl
theorem isPtrT_59 : isPtrT Try.prog 59 = true := by kernel_rfl
theorem isU8T_59 : isU8T Try.prog 59 = false := by kernel_rfl
theorem szOf_68 : szOf Try.prog 68 = some 1 := by kernel_rfl
theorem isAgg_68 : isAggB Try.prog 68 = some false := by kernel_rfl
theorem bytesOf_68 : bytesOf Try.prog 68 = some 8 := by kernel_rfl
theorem zOk_68 : zOk Try.prog 68 1 = true := by kernel_rfl
theorem zSome_68 : (zeroOf Try.prog 68).isSome = true := by kernel_rfl
theorem isBoolT_68 : isBoolT Try.prog 68 = false := by kernel_rfl
theorem isPtrT_68 : isPtrT Try.prog 68 = false := by kernel_rfl
theorem isU8T_68 : isU8T Try.prog 68 = false := by kernel_rfl
theorem szOf_69 : szOf Try.prog 69 = some 1 := by kernel_rfl
theorem isAgg_69 : isAggB Try.prog 69 = some false := by kernel_rfl
theorem bytesOf_69 : bytesOf Try.prog 69 = some 8 := by kernel_rfl
theorem zOk_69 : zOk Try.prog 69 1 = true := by kernel_rfl
theorem zSome_69 : (zeroOf Try.prog 69).isSome = true := by kernel_rfl
theorem isBoolT_69 : isBoolT Try.prog 69 = false := by kernel_rfl
theorem isPtrT_69 : isPtrT Try.prog 69 = true := by kernel_rfl
theorem isU8T_69 : isU8T Try.prog 69 = false := by kernel_rfl
theorem szOf_70 : szOf Try.prog 70 = some 3 := by kernel_rfl
theorem isAgg_70 : isAggB Try.prog 70 = some true := by kernel_rfl
theorem bytesOf_70 : bytesOf Try.prog 70 = some 40 := by kernel_rfl
theorem zOk_70 : zOk Try.prog 70 3 = true := by kernel_rfl
theorem zSome_70 : (zeroOf Try.prog 70).isSome = true := by kernel_rfl
theorem isBoolT_70 : isBoolT Try.prog 70 = false := by kernel_rfl
theorem isPtrT_70 : isPtrT Try.prog 70 = false := by kernel_rfl
theorem isU8T_70 : isU8T Try.prog 70 = false := by kernel_rfl
theorem szOf_71 : szOf Try.prog 71 = some 3 := by kernel_rfl
theorem isAgg_71 : isAggB Try.prog 71 = some true := by kernel_rfl
theorem bytesOf_71 : bytesOf Try.prog 71 = some 40 := by kernel_rfl
theorem zOk_71 : zOk Try.prog 71 3 = true := by kernel_rfl
theorem zSome_71 : (zeroOf Try.prog 71).isSome = true := by kernel_rfl
theorem isBoolT_71 : isBoolT Try.prog 71 = false := by kernel_rfl
theorem isPtrT_71 : isPtrT Try.prog 71 = false := by kernel_rfl
theorem isU8T_71 : isU8T Try.prog 71 = false := by kernel_rfl
theorem szOf_77 : szOf Try.prog 77 = some 1 := by kernel_rfl
theorem isAgg_77 : isAggB Try.prog 77 = some false := by kernel_rfl
theorem bytesOf_77 : bytesOf Try.prog 77 = some 8 := by kernel_rfl
theorem zOk_77 : zOk Try.prog 77 1 = true := by kernel_rfl
theorem zSome_77 : (zeroOf Try.prog 77).isSome = true := by kernel_rfl
theorem isBoolT_77 : isBoolT Try.prog 77 = false := by kernel_rfl
theorem isPtrT_77 : isPtrT Try.prog 77 = true := by kernel_rfl
theorem isU8T_77 : isU8T Try.prog 77 = false := by kernel_rfl
theorem szOf_78 : szOf Try.prog 78 = some 8 := by kernel_rfl
theorem isAgg_78 : isAggB Try.prog 78 = some true := by kernel_rfl
theorem bytesOf_78 : bytesOf Try.prog 78 = some 80 := by kernel_rfl
theorem zOk_78 : zOk Try.prog 78 8 = true := by kernel_rfl
theorem zSome_78 : (zeroOf Try.prog 78).isSome = true := by kernel_rfl
theorem isBoolT_78 : isBoolT Try.prog 78 = false := by kernel_rfl
theorem isPtrT_78 : isPtrT Try.prog 78 = false := by kernel_rfl
theorem isU8T_78 : isU8T Try.prog 78 = false := by kernel_rfl
theorem szOf_79 : szOf Try.prog 79 = some 8 := by kernel_rfl
theorem isAgg_79 : isAggB Try.prog 79 = some true := by kernel_rfl
theorem bytesOf_79 : bytesOf Try.prog 79 = some 80 := by kernel_rfl
theorem zOk_79 : zOk Try.prog 79 8 = true := by kernel_rfl
theorem zSome_79 : (zeroOf Try.prog 79).isSome = true := by kernel_rfl
theorem isBoolT_79 : isBoolT Try.prog 79 = false := by kernel_rfl
theorem isPtrT_79 : isPtrT Try.prog 79 = false := by kernel_rfl
theorem isU8T_79 : isU8T Try.prog 79 = false := by kernel_rfl
theorem szOf_83 : szOf Try.prog 83 = some 1 := by kernel_rfl
theorem isAgg_83 : isAggB Try.prog 83 = some false := by kernel_rfl
theorem bytesOf_83 : bytesOf Try.prog 83 = some 8 := by kernel_rfl
theorem zOk_83 : zOk Try.prog 83 1 = true := by kernel_rfl
theorem zSome_83 : (zeroOf Try.prog 83).isSome = true := by kernel_rfl
theorem isBoolT_83 : isBoolT Try.prog 83 = false := by kernel_rfl
theorem isPtrT_83 : isPtrT Try.prog 83 = false := by kernel_rfl
theorem isU8T_83 : isU8T Try.prog 83 = false := by kernel_rfl
theorem fieldV_25_0 : fieldV Try.prog 25 0 = some 0 := by kernel_rfl
theorem fieldV_25_1 : fieldV Try.prog 25 1 = some 1 := by kernel_rfl
theorem fieldV_25_2 : fieldV Try.prog 25 2 = some 2 := by kernel_rfl
theorem fieldV_28_0 : fieldV Try.prog 28 0 = some 0 := by kernel_rfl
theorem fieldV_28_1 : fieldV Try.prog 28 1 = some 1 := by kernel_rfl
theorem fieldV_28_2 : fieldV Try.prog 28 2 = some 2 := by kernel_rfl
theorem fieldV_28_3 : fieldV Try.prog 28 3 = some 3 := by kernel_rfl
theorem fieldV_28_4 : fieldV Try.prog 28 4 = some 4 := by kernel_rfl
theorem fieldV_51_0 : fieldV Try.prog 51 0 = some 0 := by kernel_rfl
theorem fieldV_51_2 : fieldV Try.prog 51 2 = some 6 := by kernel_rfl
theorem fieldV_51_3 : fieldV Try.prog 51 3 = some 7 := by kernel_rfl
theorem fieldV_51_4 : fieldV Try.prog 51 4 = some 8 := by kernel_rfl
theorem fieldV_71_0 : fieldV Try.prog 71 0 = some 0 := by kernel_rfl
theorem fieldV_71_1 : fieldV Try.prog 71 1 = some 1 := by kernel_rfl
theorem fieldV_71_2 : fieldV Try.prog 71 2 = some 2 := by kernel_rfl
theorem fieldV_79_0 : fieldV Try.prog 79 0 = some 0 := by kernel_rfl
theorem fieldV_79_1 : fieldV Try.prog 79 1 = some 5 := by kernel_rfl
theorem fieldV_79_2 : fieldV Try.prog 79 2 = some 6 := by kernel_rfl
theorem fieldV_79_3 : fieldV Try.prog 79 3 = some 7 := by kernel_rfl
theorem buildC_25 (parts : List (Nat × V)) : buildC Try.prog 25 parts = fillC (#[(0, 1), (1, 1), (2, 1)][·]?) [V.s (.slice none 0 0), V.s (.int .i64 0), V.s (.slice none 0 0)] parts := by kernel_rfl
theorem buildC_26 (parts : List (Nat × V)) : buildC Try.prog 26 parts = fillC (fun i => some (i * 1, 1)) [V.s (.int .i64 0), V.s (.int .i64 0), V.s (.int .i64 0), V.s (.int .i64 0), V.s (.int .i64 0), V.s (.int .i64 0), V.s (.int .i64 0), V.s (.int .i64 0), V.s (.int .i64 0), V.s (.int .i64 0), V.s (.int .i64 0), V.s (.int .i64 0), V.s (.int .i64 0), V.s (.int .i64 0), V.s (.int .i64 0), V.s (.int .i64 0)] parts := by kernel_rfl
theorem buildC_28 (parts : List (Nat × V)) : buildC Try.prog 28 parts = fillC (#[(0, 1), (1, 1), (2, 1), (3, 1), (4, 1)][·]?) [V.s (.int .i64 0), V.s (.int .i64 0), V.s (.int .i64 0), V.s (.int .i64 0), V.s (.int .i64 0)] parts := by kernel_rfl
theorem buildC_51 (parts : List (Nat × V)) : buildC Try.prog 51 parts = fillC (#[(0, 1), (1, 5), (6, 1), (7, 1), (8, 1)][·]?) [V.s (.int .i64 0), V.s (.int .i64 0), V.s (.int .i64 0), V.s (.int .i64 0), V.s (.int .i64 0), V.s (.int .i64 0), V.s (.int .i64 0), V.s (.int .i64 0), V.s (.int .i64 0)] parts := by kernel_rfl
theorem buildC_71 (parts : List (Nat × V)) : buildC Try.prog 71 parts = fillC (#[(0, 1), (1, 1), (2, 1)][·]?) [V.s (.int .i64 0), V.s (.int .i64 0), V.s (.slice none 0 0)] parts := by kernel_rfl
theorem buildC_79 (parts : List (Nat × V)) : buildC Try.prog 79 parts = fillC (#[(0, 5), (5, 1), (6, 1), (7, 1)][·]?) [V.s (.int .i64 0), V.s (.int .i64 0), V.s (.int .i64 0), V.s (.int .i64 0), V.s (.int .i64 0), V.s (.int .i64 0), V.s (.int .i64 0), V.s (.slice none 0 0)] parts := by kernel_rfl
/-- types of whole numbers alone that are held against each other -/
def eqT : EqT := fun t => t == 26 || t == 51
theorem eqT_ok : EqOk Try.prog eqT := eqOk_flat fun t ht => by
  simp only [eqT, Bool.or_eq_true, beq_iff_eq] at ht
  rcases ht with rfl | rfl <;> kernel_rfl
theorem eqT_26 : eqT 26 = true := by kernel_rfl
theorem eqT_51 : eqT 51 = true := by kernel_rfl
theorem mixed : Try.prog.follows .mixedOrders = true := by kernel_rfl
attribute [go_sem high] Try.underlying3 szOf_3 isAgg_3 bytesOf_3 zOk_3 zSome_3 isBoolT_3 isPtrT_3 isU8T_3 Try.underlying4 szOf_4 isAgg_4 bytesOf_4 zOk_4 zSome_4 isBoolT_4 isPtrT_4 isU8T_4 Try.underlying5 szOf_5 isAgg_5 bytesOf_5 zOk_5 zSome_5 isBoolT_5 isPtrT_5 isU8T_5 Try.underlying22 szOf_22 isAgg_22 bytesOf_22 zOk_22 zSome_22 isBoolT_22 isPtrT_22 isU8T_22 Try.underlying23 szOf_23 isAgg_23 bytesOf_23 zOk_23 zSome_23 isBoolT_23 isPtrT_23 isU8T_23 Try.underlying24 szOf_24 isAgg_24 bytesOf_24 zOk_24 zSome_24 isBoolT_24 isPtrT_24 isU8T_24 Try.underlying25 szOf_25 isAgg_25 bytesOf_25 zeroOf_25 zOk_25 zSome_25 isBoolT_25 isPtrT_25 isU8T_25 Try.underlying26 szOf_26 isAgg_26 bytesOf_26 zeroOf_26 zOk_26 zSome_26 isBoolT_26 isPtrT_26 isU8T_26 Try.underlying27 szOf_27 isAgg_27 bytesOf_27 zOk_27 zSome_27 isBoolT_27 isPtrT_27 isU8T_27 Try.underlying28 szOf_28 isAgg_28 bytesOf_28 zeroOf_28 zOk_28 zSome_28 isBoolT_28 isPtrT_28 isU8T_28 Try.underlying41 szOf_41 isAgg_41 bytesOf_41 zOk_41 zSome_41 isBoolT_41 isPtrT_41 isU8T_41 Try.underlying48 szOf_48 isAgg_48 bytesOf_48 zeroOf_48 zOk_48 zSome_48 isBoolT_48 isPtrT_48 isU8T_48 Try.underlying49 szOf_49 isAgg_49 bytesOf_49 zOk_49 zSome_49 isBoolT_49 isPtrT_49 isU8T_49 Try.underlying50 szOf_50 isAgg_50 bytesOf_50 zOk_50 zSome_50 isBoolT_50 isPtrT_50 isU8T_50 Try.underlying51 szOf_51 isAgg_51 bytesOf_51 zeroOf_51 zOk_51 zSome_51 isBoolT_51 isPtrT_51 isU8T_51 Try.underlying55 szOf_55 isAgg_55 bytesOf_55 zOk_55 zSome_55 isBoolT_55 isPtrT_55 isU8T_55 Try.underlying59 szOf_59 isAgg_59 bytesOf_59 zOk_59 zSome_59 isBoolT_59 isPtrT_59 isU8T_59 Try.underlying68 szOf_68 isAgg_68 bytesOf_68 zOk_68 zSome_68 isBoolT_68 isPtrT_68 isU8T_68 Try.underlying69 szOf_69 isAgg_69 bytesOf_69 zOk_69 zSome_69 isBoolT_69 isPtrT_69 isU8T_69 Try.underlying70 szOf_70 isAgg_70 bytesOf_70 zOk_70 zSome_70 isBoolT_70 isPtrT_70 isU8T_70 Try.underlying71 szOf_71 isAgg_71 bytesOf_71 zOk_71 zSome_71 isBoolT_71 isPtrT_71 isU8T_71 Try.underlying77 szOf_77 isAgg_77 bytesOf_77 zOk_77 zSome_77 isBoolT_77 isPtrT_77 isU8T_77 Try.underlying78 szOf_78 isAgg_78 bytesOf_78 zOk_78 zSome_78 isBoolT_78 isPtrT_78 isU8T_78 Try.underlying79 szOf_79 isAgg_79 bytesOf_79 zOk_79 zSome_79 isBoolT_79 isPtrT_79 isU8T_79 Try.underlying83 szOf_83 isAgg_83 bytesOf_83 zOk_83 zSome_83 isBoolT_83 isPtrT_83 isU8T_83 fieldV_25_0 fieldV_25_1 fieldV_25_2 fieldV_28_0 fieldV_28_1 fieldV_28_2 fieldV_28_3 fieldV_28_4 fieldV_51_0 fieldV_51_2 fieldV_51_3 fieldV_51_4 fieldV_71_0 fieldV_71_1 fieldV_71_2 fieldV_79_0 fieldV_79_1 fieldV_79_2 fieldV_79_3 buildC_25 buildC_26 buildC_28 buildC_51 buildC_71 buildC_79 eqT_26 eqT_51

end Go.Proofs.Ytnhpkdkffpagdaa
