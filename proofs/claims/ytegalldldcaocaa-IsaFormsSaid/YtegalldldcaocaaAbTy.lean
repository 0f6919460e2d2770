/-
Facts about the types of this program, as the kernel reckons them. No condition.
-/
import Derived.Test.YtegalldldcaocaaProg
import Derived.Test.YtegalldldcaocaaAbE
import Derived.KernelRfl
namespace Go.Proofs.Ytegalldldcaocaa

theorem szOf_3 : szOf Try.prog 3 = some 1 := by kernel_rfl
theorem isAgg_3 : isAggB Try.prog 3 = some false := by kernel_rfl
theorem bytesOf_3 : bytesOf Try.prog 3 = some 8 := by kernel_rfl
theorem zOk_3 : zOk Try.prog 3 1 = true := by kernel_rfl
theorem zSome_3 : (zeroOf Try.prog 3).isSome = true := by kernel_rfl
theorem isBoolT_3 : isBoolT Try.prog 3 = false := by kernel_rfl
theorem isU8T_3 : isU8T Try.prog 3 = false := by kernel_rfl
theorem szOf_4 : szOf Try.prog 4 = some 1 := by kernel_rfl
theorem isAgg_4 : isAggB Try.prog 4 = some false := by kernel_rfl
theorem bytesOf_4 : bytesOf Try.prog 4 = some 1 := by kernel_rfl
theorem zOk_4 : zOk Try.prog 4 1 = true := by kernel_rfl
theorem zSome_4 : (zeroOf Try.prog 4).isSome = true := by kernel_rfl
theorem isBoolT_4 : isBoolT Try.prog 4 = true := by kernel_rfl
theorem isU8T_4 : isU8T Try.prog 4 = false := by kernel_rfl
theorem szOf_5 : szOf Try.prog 5 = some 1 := by kernel_rfl
theorem isAgg_5 : isAggB Try.prog 5 = some false := by kernel_rfl
theorem bytesOf_5 : bytesOf Try.prog 5 = some 1 := by kernel_rfl
theorem zOk_5 : zOk Try.prog 5 1 = true := by kernel_rfl
theorem zSome_5 : (zeroOf Try.prog 5).isSome = true := by kernel_rfl
theorem isBoolT_5 : isBoolT Try.prog 5 = false := by kernel_rfl
theorem isU8T_5 : isU8T Try.prog 5 = true := by kernel_rfl
theorem szOf_9 : szOf Try.prog 9 = some 1 := by kernel_rfl
theorem isAgg_9 : isAggB Try.prog 9 = some false := by kernel_rfl
theorem bytesOf_9 : bytesOf Try.prog 9 = some 16 := by kernel_rfl
theorem zOk_9 : zOk Try.prog 9 1 = true := by kernel_rfl
theorem zSome_9 : (zeroOf Try.prog 9).isSome = true := by kernel_rfl
theorem isBoolT_9 : isBoolT Try.prog 9 = false := by kernel_rfl
theorem isU8T_9 : isU8T Try.prog 9 = false := by kernel_rfl
theorem szOf_22 : szOf Try.prog 22 = some 5 := by kernel_rfl
theorem isAgg_22 : isAggB Try.prog 22 = some true := by kernel_rfl
theorem bytesOf_22 : bytesOf Try.prog 22 = some 40 := by kernel_rfl
theorem zOk_22 : zOk Try.prog 22 5 = true := by kernel_rfl
theorem zSome_22 : (zeroOf Try.prog 22).isSome = true := by kernel_rfl
theorem isBoolT_22 : isBoolT Try.prog 22 = false := by kernel_rfl
theorem isU8T_22 : isU8T Try.prog 22 = false := by kernel_rfl
theorem szOf_23 : szOf Try.prog 23 = some 5 := by kernel_rfl
theorem isAgg_23 : isAggB Try.prog 23 = some true := by kernel_rfl
theorem bytesOf_23 : bytesOf Try.prog 23 = some 40 := by kernel_rfl
theorem zeroOf_23 : zeroOf Try.prog 23 = some (.agg #[.int .i64 0, .int .i64 0, .int .i64 0, .int .i64 0, .int .i64 0]) := by kernel_rfl
theorem zOk_23 : zOk Try.prog 23 5 = true := by kernel_rfl
theorem zSome_23 : (zeroOf Try.prog 23).isSome = true := by kernel_rfl
theorem isBoolT_23 : isBoolT Try.prog 23 = false := by kernel_rfl
theorem isU8T_23 : isU8T Try.prog 23 = false := by kernel_rfl
theorem szOf_24 : szOf Try.prog 24 = some 1 := by kernel_rfl
theorem isAgg_24 : isAggB Try.prog 24 = some false := by kernel_rfl
theorem bytesOf_24 : bytesOf Try.prog 24 = some 4 := by kernel_rfl
theorem zOk_24 : zOk Try.prog 24 1 = true := by kernel_rfl
theorem zSome_24 : (zeroOf Try.prog 24).isSome = true := by kernel_rfl
theorem isBoolT_24 : isBoolT Try.prog 24 = false := by kernel_rfl
theorem isU8T_24 : isU8T Try.prog 24 = false := by kernel_rfl
theorem szOf_33 : szOf Try.prog 33 = some 1 := by kernel_rfl
theorem isAgg_33 : isAggB Try.prog 33 = some false := by kernel_rfl
theorem bytesOf_33 : bytesOf Try.prog 33 = some 24 := by kernel_rfl
theorem zOk_33 : zOk Try.prog 33 1 = true := by kernel_rfl
theorem zSome_33 : (zeroOf Try.prog 33).isSome = true := by kernel_rfl
theorem isBoolT_33 : isBoolT Try.prog 33 = false := by kernel_rfl
theorem isU8T_33 : isU8T Try.prog 33 = false := by kernel_rfl
theorem szOf_37 : szOf Try.prog 37 = some 1 := by kernel_rfl
theorem isAgg_37 : isAggB Try.prog 37 = some false := by kernel_rfl
theorem bytesOf_37 : bytesOf Try.prog 37 = some 8 := by kernel_rfl
theorem zOk_37 : zOk Try.prog 37 1 = true := by kernel_rfl
theorem zSome_37 : (zeroOf Try.prog 37).isSome = true := by kernel_rfl
theorem isBoolT_37 : isBoolT Try.prog 37 = false := by kernel_rfl
theorem isU8T_37 : isU8T Try.prog 37 = false := by kernel_rfl
theorem szOf_40 : szOf Try.prog 40 = some 1 := by kernel_rfl
theorem isAgg_40 : isAggB Try.prog 40 = some false := by kernel_rfl
theorem bytesOf_40 : bytesOf Try.prog 40 = some 24 := by kernel_rfl
theorem zOk_40 : zOk Try.prog 40 1 = true := by kernel_rfl
theorem zSome_40 : (zeroOf Try.prog 40).isSome = true := by kernel_rfl
theorem isBoolT_40 : isBoolT Try.prog 40 = false := by kernel_rfl
theorem isU8T_40 : isU8T Try.prog 40 = false := by kernel_rfl
theorem fieldV_23_0 : fieldV Try.prog 23 0 = some 0 := by kernel_rfl
theorem fieldV_23_1 : fieldV Try.prog 23 1 = some 1 := by kernel_rfl
theorem fieldV_23_2 : fieldV Try.prog 23 2 = some 2 := by kernel_rfl
theorem fieldV_23_3 : fieldV Try.prog 23 3 = some 3 := by kernel_rfl
theorem fieldV_23_4 : fieldV Try.prog 23 4 = some 4 := by kernel_rfl
theorem buildC_23 (parts : List (Nat × V)) : buildC Try.prog 23 parts = fillC (#[(0, 1), (1, 1), (2, 1), (3, 1), (4, 1)][·]?) [V.s (.int .i64 0), V.s (.int .i64 0), V.s (.int .i64 0), V.s (.int .i64 0), V.s (.int .i64 0)] parts := by kernel_rfl
/-- types of whole numbers alone that are held against each other -/
def eqT : EqT := fun t => t == 23
theorem eqT_ok : EqOk Try.prog eqT := eqOk_ints fun t ht => by
  simp only [eqT, Bool.or_eq_true, beq_iff_eq] at ht
  subst ht; kernel_rfl
theorem eqT_23 : eqT 23 = true := by kernel_rfl
theorem mixed : Try.prog.follows .mixedOrders = true := by kernel_rfl

end Go.Proofs.Ytegalldldcaocaa
