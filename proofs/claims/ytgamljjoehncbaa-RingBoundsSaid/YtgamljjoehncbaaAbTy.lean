/-
Facts about the types of this program, as the kernel reckons them. No condition.
-/
import Derived.Test.YtgamljjoehncbaaProg
import Derived.Test.YtgamljjoehncbaaAbE
import Derived.KernelRfl
namespace Go.Proofs.Ytgamljjoehncbaa

theorem szOf_3 : szOf Try.prog 3 = some 1 := by kernel_rfl
theorem isAgg_3 : isAggB Try.prog 3 = some false := by kernel_rfl
theorem bytesOf_3 : bytesOf Try.prog 3 = some 8 := by kernel_rfl
theorem zOk_3 : zOk Try.prog 3 1 = true := by kernel_rfl
theorem zSome_3 : (zeroOf Try.prog 3).isSome = true := by kernel_rfl
theorem isBoolT_3 : isBoolT Try.prog 3 = false := by kernel_rfl
theorem isPtrT_3 : isPtrT Try.prog 3 = false := by kernel_rfl
theorem isU8T_3 : isU8T Try.prog 3 = false := by kernel_rfl
theorem szOf_4 : szOf Try.prog 4 = some 1 := by kernel_rfl
theorem isAgg_4 : isAggB Try.prog 4 = some false := by kernel_rfl
theorem bytesOf_4 : bytesOf Try.prog 4 = some 1 := by kernel_rfl
theorem zOk_4 : zOk Try.prog 4 1 = true := by kernel_rfl
theorem zSome_4 : (zeroOf Try.prog 4).isSome = true := by kernel_rfl
theorem isBoolT_4 : isBoolT Try.prog 4 = true := by kernel_rfl
theorem isPtrT_4 : isPtrT Try.prog 4 = false := by kernel_rfl
theorem isU8T_4 : isU8T Try.prog 4 = false := by kernel_rfl
theorem szOf_5 : szOf Try.prog 5 = some 1 := by kernel_rfl
theorem isAgg_5 : isAggB Try.prog 5 = some false := by kernel_rfl
theorem bytesOf_5 : bytesOf Try.prog 5 = some 1 := by kernel_rfl
theorem zOk_5 : zOk Try.prog 5 1 = true := by kernel_rfl
theorem zSome_5 : (zeroOf Try.prog 5).isSome = true := by kernel_rfl
theorem isBoolT_5 : isBoolT Try.prog 5 = false := by kernel_rfl
theorem isPtrT_5 : isPtrT Try.prog 5 = false := by kernel_rfl
theorem isU8T_5 : isU8T Try.prog 5 = true := by kernel_rfl
theorem szOf_9 : szOf Try.prog 9 = some 1 := by kernel_rfl
theorem isAgg_9 : isAggB Try.prog 9 = some false := by kernel_rfl
theorem bytesOf_9 : bytesOf Try.prog 9 = some 16 := by kernel_rfl
theorem zOk_9 : zOk Try.prog 9 1 = true := by kernel_rfl
theorem zSome_9 : (zeroOf Try.prog 9).isSome = true := by kernel_rfl
theorem isBoolT_9 : isBoolT Try.prog 9 = false := by kernel_rfl
theorem isPtrT_9 : isPtrT Try.prog 9 = false := by kernel_rfl
theorem isU8T_9 : isU8T Try.prog 9 = false := by kernel_rfl
theorem szOf_20 : szOf Try.prog 20 = some 1 := by kernel_rfl
theorem isAgg_20 : isAggB Try.prog 20 = some false := by kernel_rfl
theorem bytesOf_20 : bytesOf Try.prog 20 = some 16 := by kernel_rfl
theorem zeroOf_20 : zeroOf Try.prog 20 = some (.nilIface) := by kernel_rfl
theorem zOk_20 : zOk Try.prog 20 1 = true := by kernel_rfl
theorem zSome_20 : (zeroOf Try.prog 20).isSome = true := by kernel_rfl
theorem isBoolT_20 : isBoolT Try.prog 20 = false := by kernel_rfl
theorem isPtrT_20 : isPtrT Try.prog 20 = false := by kernel_rfl
theorem isU8T_20 : isU8T Try.prog 20 = false := by kernel_rfl
theorem szOf_21 : szOf Try.prog 21 = some 1 := by kernel_rfl
theorem isAgg_21 : isAggB Try.prog 21 = some false := by kernel_rfl
theorem bytesOf_21 : bytesOf Try.prog 21 = some 4 := by kernel_rfl
theorem zOk_21 : zOk Try.prog 21 1 = true := by kernel_rfl
theorem zSome_21 : (zeroOf Try.prog 21).isSome = true := by kernel_rfl
theorem isBoolT_21 : isBoolT Try.prog 21 = false := by kernel_rfl
theorem isPtrT_21 : isPtrT Try.prog 21 = false := by kernel_rfl
theorem isU8T_21 : isU8T Try.prog 21 = false := by kernel_rfl
theorem szOf_22 : szOf Try.prog 22 = some 1 := by kernel_rfl
theorem isAgg_22 : isAggB Try.prog 22 = some false := by kernel_rfl
theorem bytesOf_22 : bytesOf Try.prog 22 = some 4 := by kernel_rfl
theorem zeroOf_22 : zeroOf Try.prog 22 = some (.int .u32 0) := by kernel_rfl
theorem zOk_22 : zOk Try.prog 22 1 = true := by kernel_rfl
theorem zSome_22 : (zeroOf Try.prog 22).isSome = true := by kernel_rfl
theorem isBoolT_22 : isBoolT Try.prog 22 = false := by kernel_rfl
theorem isPtrT_22 : isPtrT Try.prog 22 = false := by kernel_rfl
theorem isU8T_22 : isU8T Try.prog 22 = false := by kernel_rfl
theorem szOf_26 : szOf Try.prog 26 = some 1 := by kernel_rfl
theorem isAgg_26 : isAggB Try.prog 26 = some false := by kernel_rfl
theorem bytesOf_26 : bytesOf Try.prog 26 = some 8 := by kernel_rfl
theorem zOk_26 : zOk Try.prog 26 1 = true := by kernel_rfl
theorem zSome_26 : (zeroOf Try.prog 26).isSome = true := by kernel_rfl
theorem isBoolT_26 : isBoolT Try.prog 26 = false := by kernel_rfl
theorem isPtrT_26 : isPtrT Try.prog 26 = false := by kernel_rfl
theorem isU8T_26 : isU8T Try.prog 26 = false := by kernel_rfl
theorem szOf_28 : szOf Try.prog 28 = some 1 := by kernel_rfl
theorem isAgg_28 : isAggB Try.prog 28 = some false := by kernel_rfl
theorem bytesOf_28 : bytesOf Try.prog 28 = some 24 := by kernel_rfl
theorem zOk_28 : zOk Try.prog 28 1 = true := by kernel_rfl
theorem zSome_28 : (zeroOf Try.prog 28).isSome = true := by kernel_rfl
theorem isBoolT_28 : isBoolT Try.prog 28 = false := by kernel_rfl
theorem isPtrT_28 : isPtrT Try.prog 28 = false := by kernel_rfl
theorem isU8T_28 : isU8T Try.prog 28 = false := by kernel_rfl
theorem szOf_33 : szOf Try.prog 33 = some 1 := by kernel_rfl
theorem isAgg_33 : isAggB Try.prog 33 = some false := by kernel_rfl
theorem bytesOf_33 : bytesOf Try.prog 33 = some 24 := by kernel_rfl
theorem zOk_33 : zOk Try.prog 33 1 = true := by kernel_rfl
theorem zSome_33 : (zeroOf Try.prog 33).isSome = true := by kernel_rfl
theorem isBoolT_33 : isBoolT Try.prog 33 = false := by kernel_rfl
theorem isPtrT_33 : isPtrT Try.prog 33 = false := by kernel_rfl
theorem isU8T_33 : isU8T Try.prog 33 = false := by kernel_rfl
theorem szOf_36 : szOf Try.prog 36 = some 1 := by kernel_rfl
theorem isAgg_36 : isAggB Try.prog 36 = some false := by kernel_rfl
theorem bytesOf_36 : bytesOf Try.prog 36 = some 24 := by kernel_rfl
theorem zOk_36 : zOk Try.prog 36 1 = true := by kernel_rfl
theorem zSome_36 : (zeroOf Try.prog 36).isSome = true := by kernel_rfl
theorem isBoolT_36 : isBoolT Try.prog 36 = false := by kernel_rfl
theorem isPtrT_36 : isPtrT Try.prog 36 = false := by kernel_rfl
theorem isU8T_36 : isU8T Try.prog 36 = false := by kernel_rfl
theorem szOf_37 : szOf Try.prog 37 = some 1 := by kernel_rfl
theorem isAgg_37 : isAggB Try.prog 37 = some false := by kernel_rfl
theorem bytesOf_37 : bytesOf Try.prog 37 = some 8 := by kernel_rfl
theorem zOk_37 : zOk Try.prog 37 1 = true := by kernel_rfl
theorem zSome_37 : (zeroOf Try.prog 37).isSome = true := by kernel_rfl
theorem isBoolT_37 : isBoolT Try.prog 37 = false := by kernel_rfl
theorem isPtrT_37 : isPtrT Try.prog 37 = true := by kernel_rfl
theorem isU8T_37 : isU8T Try.prog 37 = false := by kernel_rfl
theorem szOf_39 : szOf Try.prog 39 = some 1 := by kernel_rfl
theorem isAgg_39 : isAggB Try.prog 39 = some false := by kernel_rfl
theorem bytesOf_39 : bytesOf Try.prog 39 = some 8 := by kernel_rfl
theorem zOk_39 : zOk Try.prog 39 1 = true := by kernel_rfl
theorem zSome_39 : (zeroOf Try.prog 39).isSome = true := by kernel_rfl
theorem isBoolT_39 : isBoolT Try.prog 39 = false := by kernel_rfl
theorem isPtrT_39 : isPtrT Try.prog 39 = true := by kernel_rfl
theorem isU8T_39 : isU8T Try.prog 39 = false := by kernel_rfl
theorem szOf_50 : szOf Try.prog 50 = some 1 := by kernel_rfl
theorem isAgg_50 : isAggB Try.prog 50 = some false := by kernel_rfl
theorem bytesOf_50 : bytesOf Try.prog 50 = some 24 := by kernel_rfl
theorem zOk_50 : zOk Try.prog 50 1 = true := by kernel_rfl
theorem zSome_50 : (zeroOf Try.prog 50).isSome = true := by kernel_rfl
theorem isBoolT_50 : isBoolT Try.prog 50 = false := by kernel_rfl
theorem isPtrT_50 : isPtrT Try.prog 50 = false := by kernel_rfl
theorem isU8T_50 : isU8T Try.prog 50 = false := by kernel_rfl
theorem szOf_51 : szOf Try.prog 51 = some 3 := by kernel_rfl
theorem isAgg_51 : isAggB Try.prog 51 = some true := by kernel_rfl
theorem bytesOf_51 : bytesOf Try.prog 51 = some 40 := by kernel_rfl
theorem zOk_51 : zOk Try.prog 51 3 = true := by kernel_rfl
theorem zSome_51 : (zeroOf Try.prog 51).isSome = true := by kernel_rfl
theorem isBoolT_51 : isBoolT Try.prog 51 = false := by kernel_rfl
theorem isPtrT_51 : isPtrT Try.prog 51 = false := by kernel_rfl
theorem isU8T_51 : isU8T Try.prog 51 = false := by kernel_rfl
theorem szOf_52 : szOf Try.prog 52 = some 3 := by kernel_rfl
theorem isAgg_52 : isAggB Try.prog 52 = some true := by kernel_rfl
theorem bytesOf_52 : bytesOf Try.prog 52 = some 40 := by kernel_rfl
theorem zOk_52 : zOk Try.prog 52 3 = true := by kernel_rfl
theorem zSome_52 : (zeroOf Try.prog 52).isSome = true := by kernel_rfl
theorem isBoolT_52 : isBoolT Try.prog 52 = false := by kernel_rfl
theorem isPtrT_52 : isPtrT Try.prog 52 = false := by kernel_rfl
theorem isU8T_52 : isU8T Try.prog 52 = false := by kernel_rfl
theorem szOf_54 : szOf Try.prog 54 = some 2 := by kernel_rfl
theorem isAgg_54 : isAggB Try.prog 54 = some true := by kernel_rfl
theorem bytesOf_54 : bytesOf Try.prog 54 = some 32 := by kernel_rfl
theorem zOk_54 : zOk Try.prog 54 2 = true := by kernel_rfl
theorem zSome_54 : (zeroOf Try.prog 54).isSome = true := by kernel_rfl
theorem isBoolT_54 : isBoolT Try.prog 54 = false := by kernel_rfl
theorem isPtrT_54 : isPtrT Try.prog 54 = false := by kernel_rfl
theorem isU8T_54 : isU8T Try.prog 54 = false := by kernel_rfl
theorem szOf_55 : szOf Try.prog 55 = some 2 := by kernel_rfl
theorem isAgg_55 : isAggB Try.prog 55 = some true := by kernel_rfl
theorem bytesOf_55 : bytesOf Try.prog 55 = some 32 := by kernel_rfl
theorem zOk_55 : zOk Try.prog 55 2 = true := by kernel_rfl
theorem zSome_55 : (zeroOf Try.prog 55).isSome = true := by kernel_rfl
theorem isBoolT_55 : isBoolT Try.prog 55 = false := by kernel_rfl
theorem isPtrT_55 : isPtrT Try.prog 55 = false := by kernel_rfl
theorem isU8T_55 : isU8T Try.prog 55 = false := by kernel_rfl
theorem fieldV_52_0 : fieldV Try.prog 52 0 = some 0 := by kernel_rfl
theorem fieldV_52_1 : fieldV Try.prog 52 1 = some 1 := by kernel_rfl
theorem fieldV_52_2 : fieldV Try.prog 52 2 = some 2 := by kernel_rfl
theorem fieldV_55_0 : fieldV Try.prog 55 0 = some 0 := by kernel_rfl
theorem fieldV_55_1 : fieldV Try.prog 55 1 = some 1 := by kernel_rfl
theorem buildC_52 (parts : List (Nat × V)) : buildC Try.prog 52 parts = fillC (#[(0, 1), (1, 1), (2, 1)][·]?) [V.s (.slice none 0 0), V.s (.int .i64 0), V.s (.int .i64 0)] parts := by kernel_rfl
theorem buildC_55 (parts : List (Nat × V)) : buildC Try.prog 55 parts = fillC (#[(0, 1), (1, 1)][·]?) [V.s (.int .i64 0), V.s (.slice none 0 0)] parts := by kernel_rfl
/-- types of whole numbers alone that are held against each other -/
def eqT : EqT := fun t => false
theorem eqT_ok : EqOk Try.prog eqT := eqOk_flat fun t ht => by
  simp only [eqT, Bool.or_eq_true, beq_iff_eq, Bool.false_eq_true] at ht

theorem mixed : Try.prog.follows .mixedOrders = true := by kernel_rfl
attribute [go_sem high] Try.underlying3 szOf_3 isAgg_3 bytesOf_3 zOk_3 zSome_3 isBoolT_3 isPtrT_3 isU8T_3 Try.underlying4 szOf_4 isAgg_4 bytesOf_4 zOk_4 zSome_4 isBoolT_4 isPtrT_4 isU8T_4 Try.underlying5 szOf_5 isAgg_5 bytesOf_5 zOk_5 zSome_5 isBoolT_5 isPtrT_5 isU8T_5 Try.underlying9 szOf_9 isAgg_9 bytesOf_9 zOk_9 zSome_9 isBoolT_9 isPtrT_9 isU8T_9 Try.underlying20 szOf_20 isAgg_20 bytesOf_20 zeroOf_20 zOk_20 zSome_20 isBoolT_20 isPtrT_20 isU8T_20 Try.underlying21 szOf_21 isAgg_21 bytesOf_21 zOk_21 zSome_21 isBoolT_21 isPtrT_21 isU8T_21 Try.underlying22 szOf_22 isAgg_22 bytesOf_22 zeroOf_22 zOk_22 zSome_22 isBoolT_22 isPtrT_22 isU8T_22 Try.underlying26 szOf_26 isAgg_26 bytesOf_26 zOk_26 zSome_26 isBoolT_26 isPtrT_26 isU8T_26 Try.underlying28 szOf_28 isAgg_28 bytesOf_28 zOk_28 zSome_28 isBoolT_28 isPtrT_28 isU8T_28 Try.underlying33 szOf_33 isAgg_33 bytesOf_33 zOk_33 zSome_33 isBoolT_33 isPtrT_33 isU8T_33 Try.underlying36 szOf_36 isAgg_36 bytesOf_36 zOk_36 zSome_36 isBoolT_36 isPtrT_36 isU8T_36 Try.underlying37 szOf_37 isAgg_37 bytesOf_37 zOk_37 zSome_37 isBoolT_37 isPtrT_37 isU8T_37 Try.underlying39 szOf_39 isAgg_39 bytesOf_39 zOk_39 zSome_39 isBoolT_39 isPtrT_39 isU8T_39 Try.underlying50 szOf_50 isAgg_50 bytesOf_50 zOk_50 zSome_50 isBoolT_50 isPtrT_50 isU8T_50 Try.underlying51 szOf_51 isAgg_51 bytesOf_51 zOk_51 zSome_51 isBoolT_51 isPtrT_51 isU8T_51 Try.underlying52 szOf_52 isAgg_52 bytesOf_52 zOk_52 zSome_52 isBoolT_52 isPtrT_52 isU8T_52 Try.underlying54 szOf_54 isAgg_54 bytesOf_54 zOk_54 zSome_54 isBoolT_54 isPtrT_54 isU8T_54 Try.underlying55 szOf_55 isAgg_55 bytesOf_55 zOk_55 zSome_55 isBoolT_55 isPtrT_55 isU8T_55 fieldV_52_0 fieldV_52_1 fieldV_52_2 fieldV_55_0 fieldV_55_1 buildC_52 buildC_55

end Go.Proofs.Ytgamljjoehncbaa
