/-
Facts about the types of this program, as the kernel reckons them. No condition.
-/
import Derived.Test.YtecckfhmgnlmnaaProg
import Derived.Test.YtecckfhmgnlmnaaAbE
import Derived.KernelRfl
namespace Go.Proofs.Ytecckfhmgnlmnaa

theorem szOf_3 : szOf Try.prog 3 = some 1 := by kernel_rfl
theorem isAgg_3 : isAggB Try.prog 3 = some false := by kernel_rfl
theorem bytesOf_3 : bytesOf Try.prog 3 = some 8 := by kernel_rfl
theorem zOk_3 : zOk Try.prog 3 1 = true := by kernel_rfl
theorem zSome_3 : (zeroOf Try.prog 3).isSome = true := by kernel_rfl
theorem isBoolT_3 : isBoolT Try.prog 3 = false := by kernel_rfl
theorem isPtrT_3 : isPtrT Try.prog 3 = false := by kernel_rfl
theorem isU8T_3 : isU8T Try.prog 3 = false := by kernel_rfl
theorem szOf_4 : szOf Try.prog 4 = some 1 := by kernel_rfl
theorem isAgg_4 : isAggB Try.prog 4 = some false := by kernel_rfl
theorem bytesOf_4 : bytesOf Try.prog 4 = some 1 := by kernel_rfl
theorem zOk_4 : zOk Try.prog 4 1 = true := by kernel_rfl
theorem zSome_4 : (zeroOf Try.prog 4).isSome = true := by kernel_rfl
theorem isBoolT_4 : isBoolT Try.prog 4 = true := by kernel_rfl
theorem isPtrT_4 : isPtrT Try.prog 4 = false := by kernel_rfl
theorem isU8T_4 : isU8T Try.prog 4 = false := by kernel_rfl
theorem szOf_5 : szOf Try.prog 5 = some 1 := by kernel_rfl
theorem isAgg_5 : isAggB Try.prog 5 = some false := by kernel_rfl
theorem bytesOf_5 : bytesOf Try.prog 5 = some 1 := by kernel_rfl
theorem zOk_5 : zOk Try.prog 5 1 = true := by kernel_rfl
theorem zSome_5 : (zeroOf Try.prog 5).isSome = true := by kernel_rfl
theorem isBoolT_5 : isBoolT Try.prog 5 = false := by kernel_rfl
theorem isPtrT_5 : isPtrT Try.prog 5 = false := by kernel_rfl
theorem isU8T_5 : isU8T Try.prog 5 = true := by kernel_rfl
theorem szOf_9 : szOf Try.prog 9 = some 1 := by kernel_rfl
theorem isAgg_9 : isAggB Try.prog 9 = some false := by kernel_rfl
theorem bytesOf_9 : bytesOf Try.prog 9 = some 16 := by kernel_rfl
theorem zOk_9 : zOk Try.prog 9 1 = true := by kernel_rfl
theorem zSome_9 : (zeroOf Try.prog 9).isSome = true := by kernel_rfl
theorem isBoolT_9 : isBoolT Try.prog 9 = false := by kernel_rfl
theorem isPtrT_9 : isPtrT Try.prog 9 = false := by kernel_rfl
theorem isU8T_9 : isU8T Try.prog 9 = false := by kernel_rfl
theorem szOf_22 : szOf Try.prog 22 = some 1 := by kernel_rfl
theorem isAgg_22 : isAggB Try.prog 22 = some false := by kernel_rfl
theorem bytesOf_22 : bytesOf Try.prog 22 = some 24 := by kernel_rfl
theorem zOk_22 : zOk Try.prog 22 1 = true := by kernel_rfl
theorem zSome_22 : (zeroOf Try.prog 22).isSome = true := by kernel_rfl
theorem isBoolT_22 : isBoolT Try.prog 22 = false := by kernel_rfl
theorem isPtrT_22 : isPtrT Try.prog 22 = false := by kernel_rfl
theorem isU8T_22 : isU8T Try.prog 22 = false := by kernel_rfl
theorem szOf_23 : szOf Try.prog 23 = some 1 := by kernel_rfl
theorem isAgg_23 : isAggB Try.prog 23 = some false := by kernel_rfl
theorem bytesOf_23 : bytesOf Try.prog 23 = some 24 := by kernel_rfl
theorem zOk_23 : zOk Try.prog 23 1 = true := by kernel_rfl
theorem zSome_23 : (zeroOf Try.prog 23).isSome = true := by kernel_rfl
theorem isBoolT_23 : isBoolT Try.prog 23 = false := by kernel_rfl
theorem isPtrT_23 : isPtrT Try.prog 23 = false := by kernel_rfl
theorem isU8T_23 : isU8T Try.prog 23 = false := by kernel_rfl
theorem szOf_24 : szOf Try.prog 24 = some 3 := by kernel_rfl
theorem isAgg_24 : isAggB Try.prog 24 = some true := by kernel_rfl
theorem bytesOf_24 : bytesOf Try.prog 24 = some 56 := by kernel_rfl
theorem zOk_24 : zOk Try.prog 24 3 = true := by kernel_rfl
theorem zSome_24 : (zeroOf Try.prog 24).isSome = true := by kernel_rfl
theorem isBoolT_24 : isBoolT Try.prog 24 = false := by kernel_rfl
theorem isPtrT_24 : isPtrT Try.prog 24 = false := by kernel_rfl
theorem isU8T_24 : isU8T Try.prog 24 = false := by kernel_rfl
theorem szOf_25 : szOf Try.prog 25 = some 3 := by kernel_rfl
theorem isAgg_25 : isAggB Try.prog 25 = some true := by kernel_rfl
theorem bytesOf_25 : bytesOf Try.prog 25 = some 56 := by kernel_rfl
theorem zeroOf_25 : zeroOf Try.prog 25 = some (.agg #[.slice none 0 0, .int .i64 0, .slice none 0 0]) := by kernel_rfl
theorem zOk_25 : zOk Try.prog 25 3 = true := by kernel_rfl
theorem zSome_25 : (zeroOf Try.prog 25).isSome = true := by kernel_rfl
theorem isBoolT_25 : isBoolT Try.prog 25 = false := by kernel_rfl
theorem isPtrT_25 : isPtrT Try.prog 25 = false := by kernel_rfl
theorem isU8T_25 : isU8T Try.prog 25 = false := by kernel_rfl
theorem szOf_28 : szOf Try.prog 28 = some 1 := by kernel_rfl
theorem isAgg_28 : isAggB Try.prog 28 = some false := by kernel_rfl
theorem bytesOf_28 : bytesOf Try.prog 28 = some 8 := by kernel_rfl
theorem zOk_28 : zOk Try.prog 28 1 = true := by kernel_rfl
theorem zSome_28 : (zeroOf Try.prog 28).isSome = true := by kernel_rfl
theorem isBoolT_28 : isBoolT Try.prog 28 = false := by kernel_rfl
theorem isPtrT_28 : isPtrT Try.prog 28 = false := by kernel_rfl
theorem isU8T_28 : isU8T Try.prog 28 = false := by kernel_rfl
theorem szOf_40 : szOf Try.prog 40 = some 5 := by kernel_rfl
theorem isAgg_40 : isAggB Try.prog 40 = some true := by kernel_rfl
theorem bytesOf_40 : bytesOf Try.prog 40 = some 40 := by kernel_rfl
theorem zOk_40 : zOk Try.prog 40 5 = true := by kernel_rfl
theorem zSome_40 : (zeroOf Try.prog 40).isSome = true := by kernel_rfl
theorem isBoolT_40 : isBoolT Try.prog 40 = false := by kernel_rfl
theorem isPtrT_40 : isPtrT Try.prog 40 = false := by kernel_rfl
theorem isU8T_40 : isU8T Try.prog 40 = false := by kernel_rfl
theorem szOf_41 : szOf Try.prog 41 = some 5 := by kernel_rfl
theorem isAgg_41 : isAggB Try.prog 41 = some true := by kernel_rfl
theorem bytesOf_41 : bytesOf Try.prog 41 = some 40 := by kernel_rfl
theorem zeroOf_41 : zeroOf Try.prog 41 = some (.agg #[.int .i64 0, .int .i64 0, .int .i64 0, .int .i64 0, .int .i64 0]) := by kernel_rfl
theorem zOk_41 : zOk Try.prog 41 5 = true := by kernel_rfl
theorem zSome_41 : (zeroOf Try.prog 41).isSome = true := by kernel_rfl
theorem isBoolT_41 : isBoolT Try.prog 41 = false := by kernel_rfl
theorem isPtrT_41 : isPtrT Try.prog 41 = false := by kernel_rfl
theorem isU8T_41 : isU8T Try.prog 41 = false := by kernel_rfl
theorem szOf_43 : szOf Try.prog 43 = some 1 := by kernel_rfl
theorem isAgg_43 : isAggB Try.prog 43 = some false := by kernel_rfl
theorem bytesOf_43 : bytesOf Try.prog 43 = some 4 := by kernel_rfl
theorem zOk_43 : zOk Try.prog 43 1 = true := by kernel_rfl
theorem zSome_43 : (zeroOf Try.prog 43).isSome = true := by kernel_rfl
theorem isBoolT_43 : isBoolT Try.prog 43 = false := by kernel_rfl
theorem isPtrT_43 : isPtrT Try.prog 43 = false := by kernel_rfl
theorem isU8T_43 : isU8T Try.prog 43 = false := by kernel_rfl
theorem szOf_46 : szOf Try.prog 46 = some 1 := by kernel_rfl
theorem isAgg_46 : isAggB Try.prog 46 = some false := by kernel_rfl
theorem bytesOf_46 : bytesOf Try.prog 46 = some 8 := by kernel_rfl
theorem zOk_46 : zOk Try.prog 46 1 = true := by kernel_rfl
theorem zSome_46 : (zeroOf Try.prog 46).isSome = true := by kernel_rfl
theorem isBoolT_46 : isBoolT Try.prog 46 = false := by kernel_rfl
theorem isPtrT_46 : isPtrT Try.prog 46 = false := by kernel_rfl
theorem isU8T_46 : isU8T Try.prog 46 = false := by kernel_rfl
theorem szOf_48 : szOf Try.prog 48 = some 3 := by kernel_rfl
theorem isAgg_48 : isAggB Try.prog 48 = some true := by kernel_rfl
theorem bytesOf_48 : bytesOf Try.prog 48 = some 24 := by kernel_rfl
theorem zeroOf_48 : zeroOf Try.prog 48 = some (.agg #[.int .i64 0, .int .i64 0, .int .i64 0]) := by kernel_rfl
theorem zOk_48 : zOk Try.prog 48 3 = true := by kernel_rfl
theorem zSome_48 : (zeroOf Try.prog 48).isSome = true := by kernel_rfl
theorem isBoolT_48 : isBoolT Try.prog 48 = false := by kernel_rfl
theorem isPtrT_48 : isPtrT Try.prog 48 = false := by kernel_rfl
theorem isU8T_48 : isU8T Try.prog 48 = false := by kernel_rfl
theorem szOf_60 : szOf Try.prog 60 = some 1 := by kernel_rfl
theorem isAgg_60 : isAggB Try.prog 60 = some false := by kernel_rfl
theorem bytesOf_60 : bytesOf Try.prog 60 = some 24 := by kernel_rfl
theorem zOk_60 : zOk Try.prog 60 1 = true := by kernel_rfl
theorem zSome_60 : (zeroOf Try.prog 60).isSome = true := by kernel_rfl
theorem isBoolT_60 : isBoolT Try.prog 60 = false := by kernel_rfl
theorem isPtrT_60 : isPtrT Try.prog 60 = false := by kernel_rfl
theorem isU8T_60 : isU8T Try.prog 60 = false := by kernel_rfl
theorem fieldV_25_0 : fieldV Try.prog 25 0 = some 0 := by kernel_rfl
theorem fieldV_25_1 : fieldV Try.prog 25 1 = some 1 := by kernel_rfl
theorem fieldV_25_2 : fieldV Try.prog 25 2 = some 2 := by kernel_rfl
theorem fieldV_41_0 : fieldV Try.prog 41 0 = some 0 := by kernel_rfl
theorem fieldV_41_1 : fieldV Try.prog 41 1 = some 1 := by kernel_rfl
theorem fieldV_41_2 : fieldV Try.prog 41 2 = some 2 := by kernel_rfl
theorem fieldV_41_3 : fieldV Try.prog 41 3 = some 3 := by kernel_rfl
theorem fieldV_41_4 : fieldV Try.prog 41 4 = some 4 := by kernel_rfl
theorem buildC_25 (parts : List (Nat × V)) : buildC Try.prog 25 parts = fillC (#[(0, 1), (1, 1), (2, 1)][·]?) [V.s (.slice none 0 0), V.s (.int .i64 0), V.s (.slice none 0 0)] parts := by kernel_rfl
theorem buildC_41 (parts : List (Nat × V)) : buildC Try.prog 41 parts = fillC (#[(0, 1), (1, 1), (2, 1), (3, 1), (4, 1)][·]?) [V.s (.int .i64 0), V.s (.int .i64 0), V.s (.int .i64 0), V.s (.int .i64 0), V.s (.int .i64 0)] parts := by kernel_rfl
/-- types of whole numbers alone that are held against each other -/
def eqT : EqT := fun t => t == 41
theorem eqT_ok : EqOk Try.prog eqT := eqOk_flat fun t ht => by
  simp only [eqT, Bool.or_eq_true, beq_iff_eq] at ht
  subst ht; kernel_rfl
theorem eqT_41 : eqT 41 = true := by kernel_rfl
theorem mixed : Try.prog.follows .mixedOrders = true := by kernel_rfl
attribute [go_sem high] Try.underlying3 szOf_3 isAgg_3 bytesOf_3 zOk_3 zSome_3 isBoolT_3 isPtrT_3 isU8T_3 Try.underlying4 szOf_4 isAgg_4 bytesOf_4 zOk_4 zSome_4 isBoolT_4 isPtrT_4 isU8T_4 Try.underlying5 szOf_5 isAgg_5 bytesOf_5 zOk_5 zSome_5 isBoolT_5 isPtrT_5 isU8T_5 Try.underlying9 szOf_9 isAgg_9 bytesOf_9 zOk_9 zSome_9 isBoolT_9 isPtrT_9 isU8T_9 Try.underlying22 szOf_22 isAgg_22 bytesOf_22 zOk_22 zSome_22 isBoolT_22 isPtrT_22 isU8T_22 Try.underlying23 szOf_23 isAgg_23 bytesOf_23 zOk_23 zSome_23 isBoolT_23 isPtrT_23 isU8T_23 Try.underlying24 szOf_24 isAgg_24 bytesOf_24 zOk_24 zSome_24 isBoolT_24 isPtrT_24 isU8T_24 Try.underlying25 szOf_25 isAgg_25 bytesOf_25 zeroOf_25 zOk_25 zSome_25 isBoolT_25 isPtrT_25 isU8T_25 Try.underlying28 szOf_28 isAgg_28 bytesOf_28 zOk_28 zSome_28 isBoolT_28 isPtrT_28 isU8T_28 Try.underlying40 szOf_40 isAgg_40 bytesOf_40 zOk_40 zSome_40 isBoolT_40 isPtrT_40 isU8T_40 Try.underlying41 szOf_41 isAgg_41 bytesOf_41 zeroOf_41 zOk_41 zSome_41 isBoolT_41 isPtrT_41 isU8T_41 Try.underlying43 szOf_43 isAgg_43 bytesOf_43 zOk_43 zSome_43 isBoolT_43 isPtrT_43 isU8T_43 Try.underlying46 szOf_46 isAgg_46 bytesOf_46 zOk_46 zSome_46 isBoolT_46 isPtrT_46 isU8T_46 Try.underlying48 szOf_48 isAgg_48 bytesOf_48 zeroOf_48 zOk_48 zSome_48 isBoolT_48 isPtrT_48 isU8T_48 Try.underlying60 szOf_60 isAgg_60 bytesOf_60 zOk_60 zSome_60 isBoolT_60 isPtrT_60 isU8T_60 fieldV_25_0 fieldV_25_1 fieldV_25_2 fieldV_41_0 fieldV_41_1 fieldV_41_2 fieldV_41_3 fieldV_41_4 buildC_25 buildC_41 eqT_41

end Go.Proofs.Ytecckfhmgnlmnaa
