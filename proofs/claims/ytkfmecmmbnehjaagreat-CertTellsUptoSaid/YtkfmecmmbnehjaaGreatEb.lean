/-
What the makers' methods answer; cells of registers; which registers are sent, by the plain reckoning. No condition.
-/
import Derived.Test.YtkfmecmmbnehjaaGreatEa
import Derived.Test.YtkfmecmmbnehjaaGreatCc
namespace Go.Proofs.YtkfmecmmbnehjaaGreat
set_option linter.unusedSimpArgs false
set_option linter.unusedVariables false

theorem mIns_0 (op d a b imm pc off kind : Int) : spMIns.fn [.obx [.s (.int .i64 op), .s (.int .i64 d), .s (.int .i64 a), .s (.int .i64 b), .s (.int .i64 imm), .s (.int .i64 pc), .s (.int .i64 off), .s (.slice none 0 0)], .s (.int .i64 kind)] = some (.io 0 (.tup []) (.obx [.s (.int .i64 op), .s (.int .i64 d), .s (.int .i64 a), .s (.int .i64 b), .s (.int .i64 imm), .s (.int .i64 pc), .s (.int .i64 off), .own 9 51 [.agg [.s (.int .i64 kind), .s (.int .i64 op), .s (.int .i64 d), .s (.int .i64 a), .s (.int .i64 b), .s (.int .i64 imm), .s (.int .i64 0), .s (.int .i64 pc), .s (.int .i64 off)]]])) := by kernel_rfl
theorem mReg_0 (op d a b imm pc off kind r : Int) : spMReg.fn [.obx [.s (.int .i64 op), .s (.int .i64 d), .s (.int .i64 a), .s (.int .i64 b), .s (.int .i64 imm), .s (.int .i64 pc), .s (.int .i64 off), .s (.slice none 0 0)], .s (.int .i64 kind), .s (.int .i64 r)] = some (.io 0 (.tup []) (.obx [.s (.int .i64 op), .s (.int .i64 d), .s (.int .i64 a), .s (.int .i64 b), .s (.int .i64 imm), .s (.int .i64 pc), .s (.int .i64 off), .own 9 51 [.agg [.s (.int .i64 kind), .s (.int .i64 0), .s (.int .i64 0), .s (.int .i64 0), .s (.int .i64 0), .s (.int .i64 0), .s (.int .i64 r), .s (.int .i64 pc), .s (.int .i64 off)]]])) := by kernel_rfl
theorem mBare_0 (op d a b imm pc off kind : Int) : spMBare.fn [.obx [.s (.int .i64 op), .s (.int .i64 d), .s (.int .i64 a), .s (.int .i64 b), .s (.int .i64 imm), .s (.int .i64 pc), .s (.int .i64 off), .s (.slice none 0 0)], .s (.int .i64 kind)] = some (.io 0 (.tup []) (.obx [.s (.int .i64 op), .s (.int .i64 d), .s (.int .i64 a), .s (.int .i64 b), .s (.int .i64 imm), .s (.int .i64 pc), .s (.int .i64 off), .own 9 51 [.agg [.s (.int .i64 kind), .s (.int .i64 0), .s (.int .i64 0), .s (.int .i64 0), .s (.int .i64 0), .s (.int .i64 0), .s (.int .i64 0), .s (.int .i64 pc), .s (.int .i64 off)]]])) := by kernel_rfl
theorem rIns_0 (pc off kind op d a b imm : Int) : spRIns.fn [.obx [.s (.int .i64 pc), .s (.int .i64 off), .s (.slice none 0 0)], .s (.int .i64 kind), .agg [.s (.int .i64 op), .s (.int .i64 d), .s (.int .i64 a), .s (.int .i64 b), .s (.int .i64 imm)]] = some (.io 0 (.tup []) (.obx [.s (.int .i64 pc), .s (.int .i64 off), .own 9 51 [.agg [.s (.int .i64 kind), .s (.int .i64 op), .s (.int .i64 d), .s (.int .i64 a), .s (.int .i64 b), .s (.int .i64 imm), .s (.int .i64 0), .s (.int .i64 pc), .s (.int .i64 off)]]])) := by kernel_rfl
theorem rReg_0 (pc off kind r : Int) : spRReg.fn [.obx [.s (.int .i64 pc), .s (.int .i64 off), .s (.slice none 0 0)], .s (.int .i64 kind), .s (.int .i64 r)] = some (.io 0 (.tup []) (.obx [.s (.int .i64 pc), .s (.int .i64 off), .own 9 51 [.agg [.s (.int .i64 kind), .s (.int .i64 0), .s (.int .i64 0), .s (.int .i64 0), .s (.int .i64 0), .s (.int .i64 0), .s (.int .i64 r), .s (.int .i64 pc), .s (.int .i64 off)]]])) := by kernel_rfl
theorem rPlain_0 (pc off kind : Int) : spRPlain.fn [.obx [.s (.int .i64 pc), .s (.int .i64 off), .s (.slice none 0 0)], .s (.int .i64 kind)] = some (.io 0 (.tup []) (.obx [.s (.int .i64 pc), .s (.int .i64 off), .own 9 51 [.agg [.s (.int .i64 kind), .s (.int .i64 0), .s (.int .i64 0), .s (.int .i64 0), .s (.int .i64 0), .s (.int .i64 0), .s (.int .i64 0), .s (.int .i64 pc), .s (.int .i64 off)]]])) := by kernel_rfl
theorem mIns_1 (op d a b imm pc off kind x0 x1 x2 x3 x4 x5 x6 x7 x8 : Int) : spMIns.fn [.obx [.s (.int .i64 op), .s (.int .i64 d), .s (.int .i64 a), .s (.int .i64 b), .s (.int .i64 imm), .s (.int .i64 pc), .s (.int .i64 off), .own 9 51 [.agg [.s (.int .i64 x0), .s (.int .i64 x1), .s (.int .i64 x2), .s (.int .i64 x3), .s (.int .i64 x4), .s (.int .i64 x5), .s (.int .i64 x6), .s (.int .i64 x7), .s (.int .i64 x8)]]], .s (.int .i64 kind)] = some (.io 0 (.tup []) (.obx [.s (.int .i64 op), .s (.int .i64 d), .s (.int .i64 a), .s (.int .i64 b), .s (.int .i64 imm), .s (.int .i64 pc), .s (.int .i64 off), .own 9 51 [.agg [.s (.int .i64 x0), .s (.int .i64 x1), .s (.int .i64 x2), .s (.int .i64 x3), .s (.int .i64 x4), .s (.int .i64 x5), .s (.int .i64 x6), .s (.int .i64 x7), .s (.int .i64 x8)], .agg [.s (.int .i64 kind), .s (.int .i64 op), .s (.int .i64 d), .s (.int .i64 a), .s (.int .i64 b), .s (.int .i64 imm), .s (.int .i64 0), .s (.int .i64 pc), .s (.int .i64 off)]]])) := by kernel_rfl
theorem mReg_1 (op d a b imm pc off kind r x0 x1 x2 x3 x4 x5 x6 x7 x8 : Int) : spMReg.fn [.obx [.s (.int .i64 op), .s (.int .i64 d), .s (.int .i64 a), .s (.int .i64 b), .s (.int .i64 imm), .s (.int .i64 pc), .s (.int .i64 off), .own 9 51 [.agg [.s (.int .i64 x0), .s (.int .i64 x1), .s (.int .i64 x2), .s (.int .i64 x3), .s (.int .i64 x4), .s (.int .i64 x5), .s (.int .i64 x6), .s (.int .i64 x7), .s (.int .i64 x8)]]], .s (.int .i64 kind), .s (.int .i64 r)] = some (.io 0 (.tup []) (.obx [.s (.int .i64 op), .s (.int .i64 d), .s (.int .i64 a), .s (.int .i64 b), .s (.int .i64 imm), .s (.int .i64 pc), .s (.int .i64 off), .own 9 51 [.agg [.s (.int .i64 x0), .s (.int .i64 x1), .s (.int .i64 x2), .s (.int .i64 x3), .s (.int .i64 x4), .s (.int .i64 x5), .s (.int .i64 x6), .s (.int .i64 x7), .s (.int .i64 x8)], .agg [.s (.int .i64 kind), .s (.int .i64 0), .s (.int .i64 0), .s (.int .i64 0), .s (.int .i64 0), .s (.int .i64 0), .s (.int .i64 r), .s (.int .i64 pc), .s (.int .i64 off)]]])) := by kernel_rfl
theorem mBare_1 (op d a b imm pc off kind x0 x1 x2 x3 x4 x5 x6 x7 x8 : Int) : spMBare.fn [.obx [.s (.int .i64 op), .s (.int .i64 d), .s (.int .i64 a), .s (.int .i64 b), .s (.int .i64 imm), .s (.int .i64 pc), .s (.int .i64 off), .own 9 51 [.agg [.s (.int .i64 x0), .s (.int .i64 x1), .s (.int .i64 x2), .s (.int .i64 x3), .s (.int .i64 x4), .s (.int .i64 x5), .s (.int .i64 x6), .s (.int .i64 x7), .s (.int .i64 x8)]]], .s (.int .i64 kind)] = some (.io 0 (.tup []) (.obx [.s (.int .i64 op), .s (.int .i64 d), .s (.int .i64 a), .s (.int .i64 b), .s (.int .i64 imm), .s (.int .i64 pc), .s (.int .i64 off), .own 9 51 [.agg [.s (.int .i64 x0), .s (.int .i64 x1), .s (.int .i64 x2), .s (.int .i64 x3), .s (.int .i64 x4), .s (.int .i64 x5), .s (.int .i64 x6), .s (.int .i64 x7), .s (.int .i64 x8)], .agg [.s (.int .i64 kind), .s (.int .i64 0), .s (.int .i64 0), .s (.int .i64 0), .s (.int .i64 0), .s (.int .i64 0), .s (.int .i64 0), .s (.int .i64 pc), .s (.int .i64 off)]]])) := by kernel_rfl
theorem rIns_1 (pc off kind op d a b imm x0 x1 x2 x3 x4 x5 x6 x7 x8 : Int) : spRIns.fn [.obx [.s (.int .i64 pc), .s (.int .i64 off), .own 9 51 [.agg [.s (.int .i64 x0), .s (.int .i64 x1), .s (.int .i64 x2), .s (.int .i64 x3), .s (.int .i64 x4), .s (.int .i64 x5), .s (.int .i64 x6), .s (.int .i64 x7), .s (.int .i64 x8)]]], .s (.int .i64 kind), .agg [.s (.int .i64 op), .s (.int .i64 d), .s (.int .i64 a), .s (.int .i64 b), .s (.int .i64 imm)]] = some (.io 0 (.tup []) (.obx [.s (.int .i64 pc), .s (.int .i64 off), .own 9 51 [.agg [.s (.int .i64 x0), .s (.int .i64 x1), .s (.int .i64 x2), .s (.int .i64 x3), .s (.int .i64 x4), .s (.int .i64 x5), .s (.int .i64 x6), .s (.int .i64 x7), .s (.int .i64 x8)], .agg [.s (.int .i64 kind), .s (.int .i64 op), .s (.int .i64 d), .s (.int .i64 a), .s (.int .i64 b), .s (.int .i64 imm), .s (.int .i64 0), .s (.int .i64 pc), .s (.int .i64 off)]]])) := by kernel_rfl
theorem rReg_1 (pc off kind r x0 x1 x2 x3 x4 x5 x6 x7 x8 : Int) : spRReg.fn [.obx [.s (.int .i64 pc), .s (.int .i64 off), .own 9 51 [.agg [.s (.int .i64 x0), .s (.int .i64 x1), .s (.int .i64 x2), .s (.int .i64 x3), .s (.int .i64 x4), .s (.int .i64 x5), .s (.int .i64 x6), .s (.int .i64 x7), .s (.int .i64 x8)]]], .s (.int .i64 kind), .s (.int .i64 r)] = some (.io 0 (.tup []) (.obx [.s (.int .i64 pc), .s (.int .i64 off), .own 9 51 [.agg [.s (.int .i64 x0), .s (.int .i64 x1), .s (.int .i64 x2), .s (.int .i64 x3), .s (.int .i64 x4), .s (.int .i64 x5), .s (.int .i64 x6), .s (.int .i64 x7), .s (.int .i64 x8)], .agg [.s (.int .i64 kind), .s (.int .i64 0), .s (.int .i64 0), .s (.int .i64 0), .s (.int .i64 0), .s (.int .i64 0), .s (.int .i64 r), .s (.int .i64 pc), .s (.int .i64 off)]]])) := by kernel_rfl
theorem rPlain_1 (pc off kind x0 x1 x2 x3 x4 x5 x6 x7 x8 : Int) : spRPlain.fn [.obx [.s (.int .i64 pc), .s (.int .i64 off), .own 9 51 [.agg [.s (.int .i64 x0), .s (.int .i64 x1), .s (.int .i64 x2), .s (.int .i64 x3), .s (.int .i64 x4), .s (.int .i64 x5), .s (.int .i64 x6), .s (.int .i64 x7), .s (.int .i64 x8)]]], .s (.int .i64 kind)] = some (.io 0 (.tup []) (.obx [.s (.int .i64 pc), .s (.int .i64 off), .own 9 51 [.agg [.s (.int .i64 x0), .s (.int .i64 x1), .s (.int .i64 x2), .s (.int .i64 x3), .s (.int .i64 x4), .s (.int .i64 x5), .s (.int .i64 x6), .s (.int .i64 x7), .s (.int .i64 x8)], .agg [.s (.int .i64 kind), .s (.int .i64 0), .s (.int .i64 0), .s (.int .i64 0), .s (.int .i64 0), .s (.int .i64 0), .s (.int .i64 0), .s (.int .i64 pc), .s (.int .i64 off)]]])) := by kernel_rfl
theorem mIns_2 (op d a b imm pc off kind x0 x1 x2 x3 x4 x5 x6 x7 x8 y0 y1 y2 y3 y4 y5 y6 y7 y8 : Int) : spMIns.fn [.obx [.s (.int .i64 op), .s (.int .i64 d), .s (.int .i64 a), .s (.int .i64 b), .s (.int .i64 imm), .s (.int .i64 pc), .s (.int .i64 off), .own 9 51 [.agg [.s (.int .i64 x0), .s (.int .i64 x1), .s (.int .i64 x2), .s (.int .i64 x3), .s (.int .i64 x4), .s (.int .i64 x5), .s (.int .i64 x6), .s (.int .i64 x7), .s (.int .i64 x8)], .agg [.s (.int .i64 y0), .s (.int .i64 y1), .s (.int .i64 y2), .s (.int .i64 y3), .s (.int .i64 y4), .s (.int .i64 y5), .s (.int .i64 y6), .s (.int .i64 y7), .s (.int .i64 y8)]]], .s (.int .i64 kind)] = some (.io 0 (.tup []) (.obx [.s (.int .i64 op), .s (.int .i64 d), .s (.int .i64 a), .s (.int .i64 b), .s (.int .i64 imm), .s (.int .i64 pc), .s (.int .i64 off), .own 9 51 [.agg [.s (.int .i64 x0), .s (.int .i64 x1), .s (.int .i64 x2), .s (.int .i64 x3), .s (.int .i64 x4), .s (.int .i64 x5), .s (.int .i64 x6), .s (.int .i64 x7), .s (.int .i64 x8)], .agg [.s (.int .i64 y0), .s (.int .i64 y1), .s (.int .i64 y2), .s (.int .i64 y3), .s (.int .i64 y4), .s (.int .i64 y5), .s (.int .i64 y6), .s (.int .i64 y7), .s (.int .i64 y8)], .agg [.s (.int .i64 kind), .s (.int .i64 op), .s (.int .i64 d), .s (.int .i64 a), .s (.int .i64 b), .s (.int .i64 imm), .s (.int .i64 0), .s (.int .i64 pc), .s (.int .i64 off)]]])) := by kernel_rfl
theorem mBare_2 (op d a b imm pc off kind x0 x1 x2 x3 x4 x5 x6 x7 x8 y0 y1 y2 y3 y4 y5 y6 y7 y8 : Int) : spMBare.fn [.obx [.s (.int .i64 op), .s (.int .i64 d), .s (.int .i64 a), .s (.int .i64 b), .s (.int .i64 imm), .s (.int .i64 pc), .s (.int .i64 off), .own 9 51 [.agg [.s (.int .i64 x0), .s (.int .i64 x1), .s (.int .i64 x2), .s (.int .i64 x3), .s (.int .i64 x4), .s (.int .i64 x5), .s (.int .i64 x6), .s (.int .i64 x7), .s (.int .i64 x8)], .agg [.s (.int .i64 y0), .s (.int .i64 y1), .s (.int .i64 y2), .s (.int .i64 y3), .s (.int .i64 y4), .s (.int .i64 y5), .s (.int .i64 y6), .s (.int .i64 y7), .s (.int .i64 y8)]]], .s (.int .i64 kind)] = some (.io 0 (.tup []) (.obx [.s (.int .i64 op), .s (.int .i64 d), .s (.int .i64 a), .s (.int .i64 b), .s (.int .i64 imm), .s (.int .i64 pc), .s (.int .i64 off), .own 9 51 [.agg [.s (.int .i64 x0), .s (.int .i64 x1), .s (.int .i64 x2), .s (.int .i64 x3), .s (.int .i64 x4), .s (.int .i64 x5), .s (.int .i64 x6), .s (.int .i64 x7), .s (.int .i64 x8)], .agg [.s (.int .i64 y0), .s (.int .i64 y1), .s (.int .i64 y2), .s (.int .i64 y3), .s (.int .i64 y4), .s (.int .i64 y5), .s (.int .i64 y6), .s (.int .i64 y7), .s (.int .i64 y8)], .agg [.s (.int .i64 kind), .s (.int .i64 0), .s (.int .i64 0), .s (.int .i64 0), .s (.int .i64 0), .s (.int .i64 0), .s (.int .i64 0), .s (.int .i64 pc), .s (.int .i64 off)]]])) := by kernel_rfl
theorem rIns_2 (pc off kind op d a b imm x0 x1 x2 x3 x4 x5 x6 x7 x8 y0 y1 y2 y3 y4 y5 y6 y7 y8 : Int) : spRIns.fn [.obx [.s (.int .i64 pc), .s (.int .i64 off), .own 9 51 [.agg [.s (.int .i64 x0), .s (.int .i64 x1), .s (.int .i64 x2), .s (.int .i64 x3), .s (.int .i64 x4), .s (.int .i64 x5), .s (.int .i64 x6), .s (.int .i64 x7), .s (.int .i64 x8)], .agg [.s (.int .i64 y0), .s (.int .i64 y1), .s (.int .i64 y2), .s (.int .i64 y3), .s (.int .i64 y4), .s (.int .i64 y5), .s (.int .i64 y6), .s (.int .i64 y7), .s (.int .i64 y8)]]], .s (.int .i64 kind), .agg [.s (.int .i64 op), .s (.int .i64 d), .s (.int .i64 a), .s (.int .i64 b), .s (.int .i64 imm)]] = some (.io 0 (.tup []) (.obx [.s (.int .i64 pc), .s (.int .i64 off), .own 9 51 [.agg [.s (.int .i64 x0), .s (.int .i64 x1), .s (.int .i64 x2), .s (.int .i64 x3), .s (.int .i64 x4), .s (.int .i64 x5), .s (.int .i64 x6), .s (.int .i64 x7), .s (.int .i64 x8)], .agg [.s (.int .i64 y0), .s (.int .i64 y1), .s (.int .i64 y2), .s (.int .i64 y3), .s (.int .i64 y4), .s (.int .i64 y5), .s (.int .i64 y6), .s (.int .i64 y7), .s (.int .i64 y8)], .agg [.s (.int .i64 kind), .s (.int .i64 op), .s (.int .i64 d), .s (.int .i64 a), .s (.int .i64 b), .s (.int .i64 imm), .s (.int .i64 0), .s (.int .i64 pc), .s (.int .i64 off)]]])) := by kernel_rfl
theorem rPlain_2 (pc off kind x0 x1 x2 x3 x4 x5 x6 x7 x8 y0 y1 y2 y3 y4 y5 y6 y7 y8 : Int) : spRPlain.fn [.obx [.s (.int .i64 pc), .s (.int .i64 off), .own 9 51 [.agg [.s (.int .i64 x0), .s (.int .i64 x1), .s (.int .i64 x2), .s (.int .i64 x3), .s (.int .i64 x4), .s (.int .i64 x5), .s (.int .i64 x6), .s (.int .i64 x7), .s (.int .i64 x8)], .agg [.s (.int .i64 y0), .s (.int .i64 y1), .s (.int .i64 y2), .s (.int .i64 y3), .s (.int .i64 y4), .s (.int .i64 y5), .s (.int .i64 y6), .s (.int .i64 y7), .s (.int .i64 y8)]]], .s (.int .i64 kind)] = some (.io 0 (.tup []) (.obx [.s (.int .i64 pc), .s (.int .i64 off), .own 9 51 [.agg [.s (.int .i64 x0), .s (.int .i64 x1), .s (.int .i64 x2), .s (.int .i64 x3), .s (.int .i64 x4), .s (.int .i64 x5), .s (.int .i64 x6), .s (.int .i64 x7), .s (.int .i64 x8)], .agg [.s (.int .i64 y0), .s (.int .i64 y1), .s (.int .i64 y2), .s (.int .i64 y3), .s (.int .i64 y4), .s (.int .i64 y5), .s (.int .i64 y6), .s (.int .i64 y7), .s (.int .i64 y8)], .agg [.s (.int .i64 kind), .s (.int .i64 0), .s (.int .i64 0), .s (.int .i64 0), .s (.int .i64 0), .s (.int .i64 0), .s (.int .i64 0), .s (.int .i64 pc), .s (.int .i64 off)]]])) := by kernel_rfl
theorem spMIns_mv : spMIns.mv = [true, false] := rfl
theorem spMReg_mv : spMReg.mv = [true, false, false] := rfl
theorem spMBare_mv : spMBare.mv = [true, false] := rfl
theorem spRIns_mv : spRIns.mv = [true, false, false] := rfl
theorem spRReg_mv : spRReg.mv = [true, false, false] := rfl
theorem spRPlain_mv : spRPlain.mv = [true, false] := rfl
def cE0 : Orc := upd (upd (upd (upd (upd (upd cLaw2 83 (some spMIns)) 84 (some spMReg)) 88 (some spMBare)) 63 (some spRIns)) 67 (some spRReg)) 68 (some spRPlain)
theorem cE0_ok : ∀ g sp, cE0 g = some sp → Impl Tryz.prog g sp := orc_upd (orc_upd (orc_upd (orc_upd (orc_upd (orc_upd cLaw2_ok mIns_impl) mReg_impl) mBare_impl) rIns_impl) rReg_impl) rPlain_impl
theorem cE0_at : cE0 84 = some spMReg ∧ cE0 67 = some spRReg := ⟨rfl, rfl⟩

def spMRegs : Spec := ⟨[true, false, false], fun xs => match xs with
  | [.obx [.s (.int .i64 op), .s (.int .i64 d), .s (.int .i64 a), .s (.int .i64 b), .s (.int .i64 imm), .s (.int .i64 pc), .s (.int .i64 off), .s (.slice none 0 0)], .s (.int .i64 kind), .s (.slice none 0 0)] => some (.io 0 (.tup []) (.obx [.s (.int .i64 op), .s (.int .i64 d), .s (.int .i64 a), .s (.int .i64 b), .s (.int .i64 imm), .s (.int .i64 pc), .s (.int .i64 off), .s (.slice none 0 0)]))
  | [.obx [.s (.int .i64 op), .s (.int .i64 d), .s (.int .i64 a), .s (.int .i64 b), .s (.int .i64 imm), .s (.int .i64 pc), .s (.int .i64 off), .s (.slice none 0 0)], .s (.int .i64 kind), .lst _ 1 [.s (.int .i64 r)]] => some (.io 0 (.tup []) (.obx [.s (.int .i64 op), .s (.int .i64 d), .s (.int .i64 a), .s (.int .i64 b), .s (.int .i64 imm), .s (.int .i64 pc), .s (.int .i64 off), .own 9 51 [.agg [.s (.int .i64 kind), .s (.int .i64 0), .s (.int .i64 0), .s (.int .i64 0), .s (.int .i64 0), .s (.int .i64 0), .s (.int .i64 r), .s (.int .i64 pc), .s (.int .i64 off)]]]))
  | [.obx [.s (.int .i64 op), .s (.int .i64 d), .s (.int .i64 a), .s (.int .i64 b), .s (.int .i64 imm), .s (.int .i64 pc), .s (.int .i64 off), .s (.slice none 0 0)], .s (.int .i64 kind), .lst _ 1 [.s (.int .i64 r), .s (.int .i64 r')]] => some (.io 0 (.tup []) (.obx [.s (.int .i64 op), .s (.int .i64 d), .s (.int .i64 a), .s (.int .i64 b), .s (.int .i64 imm), .s (.int .i64 pc), .s (.int .i64 off), .own 9 51 [.agg [.s (.int .i64 kind), .s (.int .i64 0), .s (.int .i64 0), .s (.int .i64 0), .s (.int .i64 0), .s (.int .i64 0), .s (.int .i64 r), .s (.int .i64 pc), .s (.int .i64 off)], .agg [.s (.int .i64 kind), .s (.int .i64 0), .s (.int .i64 0), .s (.int .i64 0), .s (.int .i64 0), .s (.int .i64 0), .s (.int .i64 r'), .s (.int .i64 pc), .s (.int .i64 off)]]]))
  | _ => none⟩
theorem spMRegs_mv : spMRegs.mv = [true, false, false] := rfl
theorem mRegs_0 (op d a b imm pc off kind : Int) : spMRegs.fn [.obx [.s (.int .i64 op), .s (.int .i64 d), .s (.int .i64 a), .s (.int .i64 b), .s (.int .i64 imm), .s (.int .i64 pc), .s (.int .i64 off), .s (.slice none 0 0)], .s (.int .i64 kind), .s (.slice none 0 0)] = some (.io 0 (.tup []) (.obx [.s (.int .i64 op), .s (.int .i64 d), .s (.int .i64 a), .s (.int .i64 b), .s (.int .i64 imm), .s (.int .i64 pc), .s (.int .i64 off), .s (.slice none 0 0)])) := rfl
theorem mRegs_1 (op d a b imm pc off kind r : Int) (k : Bool) : spMRegs.fn [.obx [.s (.int .i64 op), .s (.int .i64 d), .s (.int .i64 a), .s (.int .i64 b), .s (.int .i64 imm), .s (.int .i64 pc), .s (.int .i64 off), .s (.slice none 0 0)], .s (.int .i64 kind), .lst k 1 [.s (.int .i64 r)]] = some (.io 0 (.tup []) (.obx [.s (.int .i64 op), .s (.int .i64 d), .s (.int .i64 a), .s (.int .i64 b), .s (.int .i64 imm), .s (.int .i64 pc), .s (.int .i64 off), .own 9 51 [.agg [.s (.int .i64 kind), .s (.int .i64 0), .s (.int .i64 0), .s (.int .i64 0), .s (.int .i64 0), .s (.int .i64 0), .s (.int .i64 r), .s (.int .i64 pc), .s (.int .i64 off)]]])) := rfl
theorem mRegs_2 (op d a b imm pc off kind r r' : Int) (k : Bool) : spMRegs.fn [.obx [.s (.int .i64 op), .s (.int .i64 d), .s (.int .i64 a), .s (.int .i64 b), .s (.int .i64 imm), .s (.int .i64 pc), .s (.int .i64 off), .s (.slice none 0 0)], .s (.int .i64 kind), .lst k 1 [.s (.int .i64 r), .s (.int .i64 r')]] = some (.io 0 (.tup []) (.obx [.s (.int .i64 op), .s (.int .i64 d), .s (.int .i64 a), .s (.int .i64 b), .s (.int .i64 imm), .s (.int .i64 pc), .s (.int .i64 off), .own 9 51 [.agg [.s (.int .i64 kind), .s (.int .i64 0), .s (.int .i64 0), .s (.int .i64 0), .s (.int .i64 0), .s (.int .i64 0), .s (.int .i64 r), .s (.int .i64 pc), .s (.int .i64 off)], .agg [.s (.int .i64 kind), .s (.int .i64 0), .s (.int .i64 0), .s (.int .i64 0), .s (.int .i64 0), .s (.int .i64 0), .s (.int .i64 r'), .s (.int .i64 pc), .s (.int .i64 off)]]])) := rfl
set_option maxHeartbeats 2000000 in
theorem mRegs_impl : Impl Tryz.prog 86 spMRegs := by
  refine impl_walk mixed cE0_ok eqT_ok Tryz.func86 rfl Tryz.ntmps86 (by kernel_rfl) ?_
  intro xs r h
  unfold spMRegs at h
  simp only at h
  (try split at h) <;> try (cases (show none = some r from h); done)
  · rename_i op d a b imm pc off kind
    cases h
    refine ⟨by simp, ?_⟩
    simp only [go_sem, seval, eq_self, reduceCtorEq, nest]
    repeat' ((first | (refine AG_of ?_ ?_ <;> intro h) | (refine AB_of ?_ ?_ <;> intro h) | (refine A_draw_of [] [] (by kernel_rfl) ?_ <;> have h := mark)) <;> simp only [go_sem, seval, eq_self, reduceCtorEq, nest, h])
    refine A_round ?_
    simp only [go_sem, seval, eq_self, reduceCtorEq, nest]
    repeat' ((first | (refine AG_of ?_ ?_ <;> intro h) | (refine AB_of ?_ ?_ <;> intro h) | (refine A_draw_of [] [] (by kernel_rfl) ?_ <;> have h := mark)) <;> simp only [go_sem, seval, eq_self, reduceCtorEq, nest, h])
    all_goals refine fin_io (by first | exact .inl rfl | exact .inr rfl) (by simp [ownAt, V.isOwn]) ?_
    all_goals simp only [ioOf, Tryz.results86, Tryz.ntmps86, go_sem, seval, eq_self, reduceCtorEq, nest]
  · rename_i op d a b imm pc off kind k r
    cases h
    refine ⟨by simp, ?_⟩
    simp only [go_sem, seval, eq_self, reduceCtorEq, nest]
    repeat' ((first | (refine AG_of ?_ ?_ <;> intro h) | (refine AB_of ?_ ?_ <;> intro h) | (refine A_draw_of [] [] (by kernel_rfl) ?_ <;> have h := mark)) <;> simp only [go_sem, seval, eq_self, reduceCtorEq, nest, h])
    refine A_round ?_
    simp only [go_sem, seval, eq_self, reduceCtorEq, nest, cE0_at, spMReg_mv, mReg_0]
    repeat' ((first | (refine AG_of ?_ ?_ <;> intro h) | (refine AB_of ?_ ?_ <;> intro h) | (refine A_draw_of [] [] (by kernel_rfl) ?_ <;> have h := mark)) <;> simp only [go_sem, seval, eq_self, reduceCtorEq, nest, cE0_at, spMReg_mv, mReg_0, h])
    refine A_round ?_
    simp only [go_sem, seval, eq_self, reduceCtorEq, nest]
    repeat' ((first | (refine AG_of ?_ ?_ <;> intro h) | (refine AB_of ?_ ?_ <;> intro h) | (refine A_draw_of [] [] (by kernel_rfl) ?_ <;> have h := mark)) <;> simp only [go_sem, seval, eq_self, reduceCtorEq, nest, h])
    all_goals refine fin_io (by first | exact .inl rfl | exact .inr rfl) (by simp [ownAt, V.isOwn]) ?_
    all_goals simp only [ioOf, Tryz.results86, Tryz.ntmps86, go_sem, seval, eq_self, reduceCtorEq, nest]
  · rename_i op d a b imm pc off kind k r r'
    cases h
    refine ⟨by simp, ?_⟩
    simp only [go_sem, seval, eq_self, reduceCtorEq, nest]
    repeat' ((first | (refine AG_of ?_ ?_ <;> intro h) | (refine AB_of ?_ ?_ <;> intro h) | (refine A_draw_of [] [] (by kernel_rfl) ?_ <;> have h := mark)) <;> simp only [go_sem, seval, eq_self, reduceCtorEq, nest, h])
    refine A_round ?_
    simp only [go_sem, seval, eq_self, reduceCtorEq, nest, cE0_at, spMReg_mv, mReg_0]
    repeat' ((first | (refine AG_of ?_ ?_ <;> intro h) | (refine AB_of ?_ ?_ <;> intro h) | (refine A_draw_of [] [] (by kernel_rfl) ?_ <;> have h := mark)) <;> simp only [go_sem, seval, eq_self, reduceCtorEq, nest, cE0_at, spMReg_mv, mReg_0, h])
    refine A_round ?_
    simp only [go_sem, seval, eq_self, reduceCtorEq, nest, cE0_at, spMReg_mv, mReg_1]
    repeat' ((first | (refine AG_of ?_ ?_ <;> intro h) | (refine AB_of ?_ ?_ <;> intro h) | (refine A_draw_of [] [] (by kernel_rfl) ?_ <;> have h := mark)) <;> simp only [go_sem, seval, eq_self, reduceCtorEq, nest, cE0_at, spMReg_mv, mReg_1, h])
    refine A_round ?_
    simp only [go_sem, seval, eq_self, reduceCtorEq, nest]
    repeat' ((first | (refine AG_of ?_ ?_ <;> intro h) | (refine AB_of ?_ ?_ <;> intro h) | (refine A_draw_of [] [] (by kernel_rfl) ?_ <;> have h := mark)) <;> simp only [go_sem, seval, eq_self, reduceCtorEq, nest, h])
    all_goals refine fin_io (by first | exact .inl rfl | exact .inr rfl) (by simp [ownAt, V.isOwn]) ?_
    all_goals simp only [ioOf, Tryz.results86, Tryz.ntmps86, go_sem, seval, eq_self, reduceCtorEq, nest]

def spRRegs : Spec := ⟨[true, false, false], fun xs => match xs with
  | [.obx [.s (.int .i64 pc), .s (.int .i64 off), .s (.slice none 0 0)], .s (.int .i64 kind), .s (.slice none 0 0)] => some (.io 0 (.tup []) (.obx [.s (.int .i64 pc), .s (.int .i64 off), .s (.slice none 0 0)]))
  | [.obx [.s (.int .i64 pc), .s (.int .i64 off), .s (.slice none 0 0)], .s (.int .i64 kind), .lst _ 1 [.s (.int .i64 r)]] => some (.io 0 (.tup []) (.obx [.s (.int .i64 pc), .s (.int .i64 off), .own 9 51 [.agg [.s (.int .i64 kind), .s (.int .i64 0), .s (.int .i64 0), .s (.int .i64 0), .s (.int .i64 0), .s (.int .i64 0), .s (.int .i64 r), .s (.int .i64 pc), .s (.int .i64 off)]]]))
  | [.obx [.s (.int .i64 pc), .s (.int .i64 off), .s (.slice none 0 0)], .s (.int .i64 kind), .lst _ 1 [.s (.int .i64 r), .s (.int .i64 r')]] => some (.io 0 (.tup []) (.obx [.s (.int .i64 pc), .s (.int .i64 off), .own 9 51 [.agg [.s (.int .i64 kind), .s (.int .i64 0), .s (.int .i64 0), .s (.int .i64 0), .s (.int .i64 0), .s (.int .i64 0), .s (.int .i64 r), .s (.int .i64 pc), .s (.int .i64 off)], .agg [.s (.int .i64 kind), .s (.int .i64 0), .s (.int .i64 0), .s (.int .i64 0), .s (.int .i64 0), .s (.int .i64 0), .s (.int .i64 r'), .s (.int .i64 pc), .s (.int .i64 off)]]]))
  | _ => none⟩
theorem spRRegs_mv : spRRegs.mv = [true, false, false] := rfl
theorem rRegs_0 (pc off kind : Int) : spRRegs.fn [.obx [.s (.int .i64 pc), .s (.int .i64 off), .s (.slice none 0 0)], .s (.int .i64 kind), .s (.slice none 0 0)] = some (.io 0 (.tup []) (.obx [.s (.int .i64 pc), .s (.int .i64 off), .s (.slice none 0 0)])) := rfl
theorem rRegs_1 (pc off kind r : Int) (k : Bool) : spRRegs.fn [.obx [.s (.int .i64 pc), .s (.int .i64 off), .s (.slice none 0 0)], .s (.int .i64 kind), .lst k 1 [.s (.int .i64 r)]] = some (.io 0 (.tup []) (.obx [.s (.int .i64 pc), .s (.int .i64 off), .own 9 51 [.agg [.s (.int .i64 kind), .s (.int .i64 0), .s (.int .i64 0), .s (.int .i64 0), .s (.int .i64 0), .s (.int .i64 0), .s (.int .i64 r), .s (.int .i64 pc), .s (.int .i64 off)]]])) := rfl
theorem rRegs_2 (pc off kind r r' : Int) (k : Bool) : spRRegs.fn [.obx [.s (.int .i64 pc), .s (.int .i64 off), .s (.slice none 0 0)], .s (.int .i64 kind), .lst k 1 [.s (.int .i64 r), .s (.int .i64 r')]] = some (.io 0 (.tup []) (.obx [.s (.int .i64 pc), .s (.int .i64 off), .own 9 51 [.agg [.s (.int .i64 kind), .s (.int .i64 0), .s (.int .i64 0), .s (.int .i64 0), .s (.int .i64 0), .s (.int .i64 0), .s (.int .i64 r), .s (.int .i64 pc), .s (.int .i64 off)], .agg [.s (.int .i64 kind), .s (.int .i64 0), .s (.int .i64 0), .s (.int .i64 0), .s (.int .i64 0), .s (.int .i64 0), .s (.int .i64 r'), .s (.int .i64 pc), .s (.int .i64 off)]]])) := rfl
set_option maxHeartbeats 2000000 in
theorem rRegs_impl : Impl Tryz.prog 64 spRRegs := by
  refine impl_walk mixed cE0_ok eqT_ok Tryz.func64 rfl Tryz.ntmps64 (by kernel_rfl) ?_
  intro xs r h
  unfold spRRegs at h
  simp only at h
  (try split at h) <;> try (cases (show none = some r from h); done)
  · rename_i pc off kind
    cases h
    refine ⟨by simp, ?_⟩
    simp only [go_sem, seval, eq_self, reduceCtorEq, nest]
    repeat' ((first | (refine AG_of ?_ ?_ <;> intro h) | (refine AB_of ?_ ?_ <;> intro h) | (refine A_draw_of [] [] (by kernel_rfl) ?_ <;> have h := mark)) <;> simp only [go_sem, seval, eq_self, reduceCtorEq, nest, h])
    refine A_round ?_
    simp only [go_sem, seval, eq_self, reduceCtorEq, nest]
    repeat' ((first | (refine AG_of ?_ ?_ <;> intro h) | (refine AB_of ?_ ?_ <;> intro h) | (refine A_draw_of [] [] (by kernel_rfl) ?_ <;> have h := mark)) <;> simp only [go_sem, seval, eq_self, reduceCtorEq, nest, h])
    all_goals refine fin_io (by first | exact .inl rfl | exact .inr rfl) (by simp [ownAt, V.isOwn]) ?_
    all_goals simp only [ioOf, Tryz.results64, Tryz.ntmps64, go_sem, seval, eq_self, reduceCtorEq, nest]
  · rename_i pc off kind k r
    cases h
    refine ⟨by simp, ?_⟩
    simp only [go_sem, seval, eq_self, reduceCtorEq, nest]
    repeat' ((first | (refine AG_of ?_ ?_ <;> intro h) | (refine AB_of ?_ ?_ <;> intro h) | (refine A_draw_of [] [] (by kernel_rfl) ?_ <;> have h := mark)) <;> simp only [go_sem, seval, eq_self, reduceCtorEq, nest, h])
    refine A_round ?_
    simp only [go_sem, seval, eq_self, reduceCtorEq, nest, cE0_at, spRReg_mv, rReg_0]
    repeat' ((first | (refine AG_of ?_ ?_ <;> intro h) | (refine AB_of ?_ ?_ <;> intro h) | (refine A_draw_of [] [] (by kernel_rfl) ?_ <;> have h := mark)) <;> simp only [go_sem, seval, eq_self, reduceCtorEq, nest, cE0_at, spRReg_mv, rReg_0, h])
    refine A_round ?_
    simp only [go_sem, seval, eq_self, reduceCtorEq, nest]
    repeat' ((first | (refine AG_of ?_ ?_ <;> intro h) | (refine AB_of ?_ ?_ <;> intro h) | (refine A_draw_of [] [] (by kernel_rfl) ?_ <;> have h := mark)) <;> simp only [go_sem, seval, eq_self, reduceCtorEq, nest, h])
    all_goals refine fin_io (by first | exact .inl rfl | exact .inr rfl) (by simp [ownAt, V.isOwn]) ?_
    all_goals simp only [ioOf, Tryz.results64, Tryz.ntmps64, go_sem, seval, eq_self, reduceCtorEq, nest]
  · rename_i pc off kind k r r'
    cases h
    refine ⟨by simp, ?_⟩
    simp only [go_sem, seval, eq_self, reduceCtorEq, nest]
    repeat' ((first | (refine AG_of ?_ ?_ <;> intro h) | (refine AB_of ?_ ?_ <;> intro h) | (refine A_draw_of [] [] (by kernel_rfl) ?_ <;> have h := mark)) <;> simp only [go_sem, seval, eq_self, reduceCtorEq, nest, h])
    refine A_round ?_
    simp only [go_sem, seval, eq_self, reduceCtorEq, nest, cE0_at, spRReg_mv, rReg_0]
    repeat' ((first | (refine AG_of ?_ ?_ <;> intro h) | (refine AB_of ?_ ?_ <;> intro h) | (refine A_draw_of [] [] (by kernel_rfl) ?_ <;> have h := mark)) <;> simp only [go_sem, seval, eq_self, reduceCtorEq, nest, cE0_at, spRReg_mv, rReg_0, h])
    refine A_round ?_
    simp only [go_sem, seval, eq_self, reduceCtorEq, nest, cE0_at, spRReg_mv, rReg_1]
    repeat' ((first | (refine AG_of ?_ ?_ <;> intro h) | (refine AB_of ?_ ?_ <;> intro h) | (refine A_draw_of [] [] (by kernel_rfl) ?_ <;> have h := mark)) <;> simp only [go_sem, seval, eq_self, reduceCtorEq, nest, cE0_at, spRReg_mv, rReg_1, h])
    refine A_round ?_
    simp only [go_sem, seval, eq_self, reduceCtorEq, nest]
    repeat' ((first | (refine AG_of ?_ ?_ <;> intro h) | (refine AB_of ?_ ?_ <;> intro h) | (refine A_draw_of [] [] (by kernel_rfl) ?_ <;> have h := mark)) <;> simp only [go_sem, seval, eq_self, reduceCtorEq, nest, h])
    all_goals refine fin_io (by first | exact .inl rfl | exact .inr rfl) (by simp [ownAt, V.isOwn]) ?_
    all_goals simp only [ioOf, Tryz.results64, Tryz.ntmps64, go_sem, seval, eq_self, reduceCtorEq, nest]

def cE1 : Orc := upd (upd (upd (upd cE0 86 (some spMRegs)) 64 (some spRRegs)) 69 (some spIndexI)) 46 (some spIndexI)
theorem cE1_ok : ∀ g sp, cE1 g = some sp → Impl Tryz.prog g sp := orc_upd (orc_upd (orc_upd (orc_upd cE0_ok mRegs_impl) rRegs_impl) indexI_impl) find_impl
theorem cE1_at : cE1 69 = some spIndexI ∧ cE1 46 = some spIndexI ∧ cE1 112 = some spReadsL ∧ cE1 58 = some spReadsL ∧ cE1 66 = some spOn := ⟨rfl, rfl, rfl, rfl, rfl⟩
theorem contI_impl : Impl Tryz.prog 40 spContI := by
  refine impl_walk2 mixed cE1_ok eqT_ok Tryz.func40 rfl Tryz.ntmps40 (by kernel_rfl) ?_
  intro xs r h
  unfold spContI at h
  simp only at h
  (try split at h) <;> try (cases (show none = some r from h); done)
  rename_i x v
  obtain ⟨l, hl, h3⟩ := Option.bind_eq_some_iff.1 h
  obtain ⟨c, h2, h4⟩ := Option.bind_eq_some_iff.1 h3
  have e := mapM_eq (fun _ _ => i64Of_eq) h2
  clear h h3
  subst e
  split at h4
  case isFalse => cases h4
  rename_i hlen
  cases h4
  refine ⟨_, (SeesL.cons (lOf_sees hl) .same).args, by simp, ?_⟩
  have hi := spIndexI_v hlen v false
  simp only [go_sem, seval, eq_self, reduceCtorEq, cE1_at, spIndexI_mv, hi]
  repeat' ((first | (refine AG_of ?_ ?_ <;> intro h) | (refine AB_of ?_ ?_ <;> intro h) | (refine A_draw_of [] [] (by kernel_rfl) ?_ <;> have h := mark)) <;> simp only [go_sem, seval, eq_self, reduceCtorEq, cE1_at, spIndexI_mv, hi, h])
  all_goals (first | refine fin_ret ?_ | refine fin_normal ?_)
  all_goals simp only [resOf, Tryz.results40, Tryz.ntmps40, go_sem, seval, eq_self, reduceCtorEq]

def cE2 : Orc := upd cE1 40 (some spContI)
theorem cE2_ok : ∀ g sp, cE2 g = some sp → Impl Tryz.prog g sp := orc_upd cE1_ok contI_impl
theorem cE2_at : cE2 40 = some spContI ∧ cE2 46 = some spIndexI ∧ cE2 112 = some spReadsL ∧ cE2 58 = some spReadsL ∧ cE2 66 = some spOn := ⟨rfl, rfl, rfl, rfl, rfl⟩
theorem contI_0 (v : Int) : spContI.fn [.s (.slice none 0 0), .s (.int .i64 v)] = some (.s (.bool false)) := by kernel_rfl
theorem contI_1 (a v : Int) (k : Bool) : spContI.fn [.lst k 1 [.s (.int .i64 a)], .s (.int .i64 v)] = some (.s (.bool (a == v))) := by
  have : spContI.fn [.lst k 1 [.s (.int .i64 a)], .s (.int .i64 v)] = some (.s (.bool (decide (0 ≤ (if (a == v) = true then (0 : Int) else -1))))) := by kernel_rfl
  rw [this]
  cases (a == v) <;> rfl
theorem idxI_0 (v : Int) : spIndexI.fn [.s (.slice none 0 0), .s (.int .i64 v)] = some (.s (.int .i64 (-1))) := by kernel_rfl
theorem idxI_1 (a v : Int) (k : Bool) : spIndexI.fn [.lst k 1 [.s (.int .i64 a)], .s (.int .i64 v)] = some (.s (.int .i64 (if (a == v) = true then 0 else -1))) := by kernel_rfl

def sentF (o : List Int) (l : List Int) : List Int := l.foldl (fun out r => if (oAt o r == 1 && !(out.contains r)) = true then out ++ [r] else out) []
def sentL (i : Ins) (o : List Int) : List Int := sentF o (readsL i)
def spSent : Spec := ⟨[], fun xs => match xs with
  | [.agg [.s (.int .i64 op), .s (.int .i64 d), .s (.int .i64 a), .s (.int .i64 b), .s (.int .i64 imm)], y] => (ownOf y).bind fun o => some (ownOr 3 ((sentL ⟨op, d, a, b, imm⟩ o).map iv))
  | _ => none⟩
theorem spSent_mv : spSent.mv = [] := rfl
theorem spSent_v {o : List Int} (ho : o.length = 16) (op d a b imm : Int) : spSent.fn [.agg [.s (.int .i64 op), .s (.int .i64 d), .s (.int .i64 a), .s (.int .i64 b), .s (.int .i64 imm)], .agg (o.map iv)] = some (ownOr 3 ((sentL ⟨op, d, a, b, imm⟩ o).map iv)) := by
  have : ownOf (.agg (o.map iv)) = some o := ownOf_v ho
  simp only [spSent, this, Option.bind_some]
theorem sent_len (i : Ins) (o : List Int) : (sentL i o).length ≤ 2 := by
  unfold sentL
  have h := reads_len i
  match readsL i, h with
  | [], _ => simp [sentF]
  | [r], _ => simp only [sentF, List.foldl_cons, List.foldl_nil]; split <;> simp
  | [r, r'], _ => simp only [sentF, List.foldl_cons, List.foldl_nil]; (repeat' split) <;> simp

set_option maxHeartbeats 4000000 in
theorem sent_impl : Impl Tryz.prog 87 spSent := by
  refine impl_walk mixed cE2_ok eqT_ok Tryz.func87 rfl Tryz.ntmps87 (by kernel_rfl) ?_
  intro xs r h
  unfold spSent at h
  simp only at h
  (try split at h) <;> try (cases (show none = some r from h); done)
  rename_i op d a b imm y
  obtain ⟨o, ho, h2⟩ := Option.bind_eq_some_iff.1 h
  clear h
  cases h2
  obtain ⟨rfl, hlen⟩ := ownOf_eq ho
  clear ho
  have ht := take_iv hlen
  refine ⟨by simp [ownV], ?_⟩
  obtain ⟨l, hl⟩ : ∃ l, readsL ⟨op, d, a, b, imm⟩ = l := ⟨_, rfl⟩
  have hR := readsL_v op d a b imm hl
  have hl2 := reads_len ⟨op, d, a, b, imm⟩
  have hbd : ∀ r ∈ l, 1 ≤ r ∧ r < 16 := fun r hr => reads_bd (i := ⟨op, d, a, b, imm⟩) (r := r) (by rw [hl]; exact hr)
  rw [hl] at hl2
  unfold sentL
  rw [hl]
  clear hl
  match l, hl2, hbd, hR with
  | [], _, _, hR =>
    simp only [List.isEmpty_nil, if_true] at hR
    simp only [go_sem, seval, eq_self, reduceCtorEq, cE2_at, spReadsL_mv, spContI_mv, contI_0, contI_1, hR, ownV]
    repeat' ((first | (refine AG_of ?_ ?_ <;> intro h) | (refine AB_of ?_ ?_ <;> intro h) | (refine A_draw_of [] [] (by kernel_rfl) ?_ <;> have h := mark)) <;> simp only [go_sem, seval, eq_self, reduceCtorEq, cE2_at, spReadsL_mv, spContI_mv, contI_0, contI_1, hR, ownV, h])
    refine A_round ?_
    simp only [go_sem, seval, eq_self, reduceCtorEq, hR]
    repeat' ((first | (refine AG_of ?_ ?_ <;> intro h) | (refine AB_of ?_ ?_ <;> intro h) | (refine A_draw_of [] [] (by kernel_rfl) ?_ <;> have h := mark)) <;> simp only [go_sem, seval, eq_self, reduceCtorEq, hR, h])
    all_goals (first | refine fin_ret ?_ | refine fin_normal ?_)
    all_goals simp only [resOf, Tryz.results87, Tryz.ntmps87, go_sem, seval, eq_self, reduceCtorEq]
    all_goals rfl
  | [r], _, hbd, hR =>
    obtain ⟨u0, u1⟩ := hbd r (by simp)
    obtain ⟨k, rfl⟩ : ∃ k : Nat, r = k := ⟨Int.toNat r, by omega⟩
    have z0 := Int.natCast_nonneg k
    have z1 : (k : Int) < 16 := u1
    have z2 := drop_iv (o := o) (k := k) (by omega)
    have z3 : spOn.fn [.agg (o.map iv), .s (.int .i64 k)] = some (.s (.int .i64 (oAt o k))) := by
      rw [spOn_v hlen, show onI o k = oAt o k from by unfold onI; rw [if_neg (by omega)]]
    simp only [List.isEmpty_cons, Bool.false_eq_true, if_false, List.map_cons, List.map_nil, iv] at hR
    cases b1 : (oAt o k == 1)
    · have e : sentF o [(k : Int)] = [] := by simp at b1; simp [sentF, b1]
      rw [e]
      simp only [go_sem, seval, eq_self, reduceCtorEq, cE2_at, spReadsL_mv, spContI_mv, contI_0, contI_1, hR, ownV]
      repeat' ((first | (refine AG_of ?_ ?_ <;> intro h) | (refine AB_of ?_ ?_ <;> intro h) | (refine A_draw_of [] [] (by kernel_rfl) ?_ <;> have h := mark)) <;> simp only [go_sem, seval, eq_self, reduceCtorEq, cE2_at, spReadsL_mv, spContI_mv, contI_0, contI_1, hR, ownV, h])
      refine A_round ?_
      simp only [go_sem, seval, eq_self, reduceCtorEq, cE2_at, spReadsL_mv, spContI_mv, contI_0, contI_1, z0, z1, z2, z3, hlen, ht, b1, Int.toNat_natCast, Nat.mul_one, Nat.zero_add, List.length_map]
      repeat' ((first | (refine AG_of ?_ ?_ <;> intro h) | (refine AB_of ?_ ?_ <;> intro h) | (refine A_draw_of [] [] (by kernel_rfl) ?_ <;> have h := mark)) <;> simp only [go_sem, seval, eq_self, reduceCtorEq, cE2_at, spReadsL_mv, spContI_mv, contI_0, contI_1, z0, z1, z2, z3, hlen, ht, b1, Int.toNat_natCast, Nat.mul_one, Nat.zero_add, List.length_map, h])
      refine A_round ?_
      simp only [go_sem, seval, eq_self, reduceCtorEq, hR]
      repeat' ((first | (refine AG_of ?_ ?_ <;> intro h) | (refine AB_of ?_ ?_ <;> intro h) | (refine A_draw_of [] [] (by kernel_rfl) ?_ <;> have h := mark)) <;> simp only [go_sem, seval, eq_self, reduceCtorEq, hR, h])
      all_goals (first | refine fin_ret ?_ | refine fin_normal ?_)
      all_goals simp only [resOf, Tryz.results87, Tryz.ntmps87, go_sem, seval, eq_self, reduceCtorEq]
      all_goals rfl
    · have e : sentF o [(k : Int)] = [(k : Int)] := by simp at b1; simp [sentF, b1]
      rw [e]
      simp only [go_sem, seval, eq_self, reduceCtorEq, cE2_at, spReadsL_mv, spContI_mv, contI_0, contI_1, hR, ownV]
      repeat' ((first | (refine AG_of ?_ ?_ <;> intro h) | (refine AB_of ?_ ?_ <;> intro h) | (refine A_draw_of [] [] (by kernel_rfl) ?_ <;> have h := mark)) <;> simp only [go_sem, seval, eq_self, reduceCtorEq, cE2_at, spReadsL_mv, spContI_mv, contI_0, contI_1, hR, ownV, h])
      refine A_round ?_
      simp only [go_sem, seval, eq_self, reduceCtorEq, cE2_at, spReadsL_mv, spContI_mv, contI_0, contI_1, z0, z1, z2, z3, hlen, ht, b1, Int.toNat_natCast, Nat.mul_one, Nat.zero_add, List.length_map]
      repeat' ((first | (refine AG_of ?_ ?_ <;> intro h) | (refine AB_of ?_ ?_ <;> intro h) | (refine A_draw_of [] [] (by kernel_rfl) ?_ <;> have h := mark)) <;> simp only [go_sem, seval, eq_self, reduceCtorEq, cE2_at, spReadsL_mv, spContI_mv, contI_0, contI_1, z0, z1, z2, z3, hlen, ht, b1, Int.toNat_natCast, Nat.mul_one, Nat.zero_add, List.length_map, h])
      refine A_round ?_
      simp only [go_sem, seval, eq_self, reduceCtorEq, hR]
      repeat' ((first | (refine AG_of ?_ ?_ <;> intro h) | (refine AB_of ?_ ?_ <;> intro h) | (refine A_draw_of [] [] (by kernel_rfl) ?_ <;> have h := mark)) <;> simp only [go_sem, seval, eq_self, reduceCtorEq, hR, h])
      all_goals (first | refine fin_ret ?_ | refine fin_normal ?_)
      all_goals simp only [resOf, Tryz.results87, Tryz.ntmps87, go_sem, seval, eq_self, reduceCtorEq, iv, ownOr]
  | [r, r'], _, hbd, hR =>
    obtain ⟨u0, u1⟩ := hbd r (by simp)
    obtain ⟨k, rfl⟩ : ∃ k : Nat, r = k := ⟨Int.toNat r, by omega⟩
    have z0 := Int.natCast_nonneg k
    have z1 : (k : Int) < 16 := u1
    have z2 := drop_iv (o := o) (k := k) (by omega)
    have z3 : spOn.fn [.agg (o.map iv), .s (.int .i64 k)] = some (.s (.int .i64 (oAt o k))) := by
      rw [spOn_v hlen, show onI o k = oAt o k from by unfold onI; rw [if_neg (by omega)]]
    obtain ⟨v0, v1⟩ := hbd r' (by simp)
    obtain ⟨k', rfl⟩ : ∃ k : Nat, r' = k := ⟨Int.toNat r', by omega⟩
    have w0 := Int.natCast_nonneg k'
    have w1 : (k' : Int) < 16 := v1
    have w2 := drop_iv (o := o) (k := k') (by omega)
    have w3 : spOn.fn [.agg (o.map iv), .s (.int .i64 k')] = some (.s (.int .i64 (oAt o k'))) := by
      rw [spOn_v hlen, show onI o k' = oAt o k' from by unfold onI; rw [if_neg (by omega)]]
    simp only [List.isEmpty_cons, Bool.false_eq_true, if_false, List.map_cons, List.map_nil, iv] at hR
    cases b1 : (oAt o k == 1)
    · cases b2 : (oAt o k' == 1)
      ·
        have e : sentF o [(k : Int), (k' : Int)] = [] := by simp at b1 b2; simp [sentF, b1, b2]
        rw [e]
        simp only [go_sem, seval, eq_self, reduceCtorEq, cE2_at, spReadsL_mv, spContI_mv, contI_0, contI_1, hR, ownV]
        repeat' ((first | (refine AG_of ?_ ?_ <;> intro h) | (refine AB_of ?_ ?_ <;> intro h) | (refine A_draw_of [] [] (by kernel_rfl) ?_ <;> have h := mark)) <;> simp only [go_sem, seval, eq_self, reduceCtorEq, cE2_at, spReadsL_mv, spContI_mv, contI_0, contI_1, hR, ownV, h])
        refine A_round ?_
        simp only [go_sem, seval, eq_self, reduceCtorEq, cE2_at, spReadsL_mv, spContI_mv, contI_0, contI_1, z0, z1, z2, z3, hlen, ht, b1, Int.toNat_natCast, Nat.mul_one, Nat.zero_add, List.length_map]
        repeat' ((first | (refine AG_of ?_ ?_ <;> intro h) | (refine AB_of ?_ ?_ <;> intro h) | (refine A_draw_of [] [] (by kernel_rfl) ?_ <;> have h := mark)) <;> simp only [go_sem, seval, eq_self, reduceCtorEq, cE2_at, spReadsL_mv, spContI_mv, contI_0, contI_1, z0, z1, z2, z3, hlen, ht, b1, Int.toNat_natCast, Nat.mul_one, Nat.zero_add, List.length_map, h])
        refine A_round ?_
        simp only [go_sem, seval, eq_self, reduceCtorEq, cE2_at, spReadsL_mv, spContI_mv, contI_0, contI_1, w0, w1, w2, w3, hlen, ht, b2, Int.toNat_natCast, Nat.mul_one, Nat.zero_add, List.length_map]
        repeat' ((first | (refine AG_of ?_ ?_ <;> intro h) | (refine AB_of ?_ ?_ <;> intro h) | (refine A_draw_of [] [] (by kernel_rfl) ?_ <;> have h := mark)) <;> simp only [go_sem, seval, eq_self, reduceCtorEq, cE2_at, spReadsL_mv, spContI_mv, contI_0, contI_1, w0, w1, w2, w3, hlen, ht, b2, Int.toNat_natCast, Nat.mul_one, Nat.zero_add, List.length_map, h])
        refine A_round ?_
        simp only [go_sem, seval, eq_self, reduceCtorEq, hR]
        repeat' ((first | (refine AG_of ?_ ?_ <;> intro h) | (refine AB_of ?_ ?_ <;> intro h) | (refine A_draw_of [] [] (by kernel_rfl) ?_ <;> have h := mark)) <;> simp only [go_sem, seval, eq_self, reduceCtorEq, hR, h])
        all_goals (first | refine fin_ret ?_ | refine fin_normal ?_)
        all_goals simp only [resOf, Tryz.results87, Tryz.ntmps87, go_sem, seval, eq_self, reduceCtorEq, iv, ownOr]
      ·
        have e : sentF o [(k : Int), (k' : Int)] = [(k' : Int)] := by simp at b1 b2; simp [sentF, b1, b2]
        rw [e]
        simp only [go_sem, seval, eq_self, reduceCtorEq, cE2_at, spReadsL_mv, spContI_mv, contI_0, contI_1, hR, ownV]
        repeat' ((first | (refine AG_of ?_ ?_ <;> intro h) | (refine AB_of ?_ ?_ <;> intro h) | (refine A_draw_of [] [] (by kernel_rfl) ?_ <;> have h := mark)) <;> simp only [go_sem, seval, eq_self, reduceCtorEq, cE2_at, spReadsL_mv, spContI_mv, contI_0, contI_1, hR, ownV, h])
        refine A_round ?_
        simp only [go_sem, seval, eq_self, reduceCtorEq, cE2_at, spReadsL_mv, spContI_mv, contI_0, contI_1, z0, z1, z2, z3, hlen, ht, b1, Int.toNat_natCast, Nat.mul_one, Nat.zero_add, List.length_map]
        repeat' ((first | (refine AG_of ?_ ?_ <;> intro h) | (refine AB_of ?_ ?_ <;> intro h) | (refine A_draw_of [] [] (by kernel_rfl) ?_ <;> have h := mark)) <;> simp only [go_sem, seval, eq_self, reduceCtorEq, cE2_at, spReadsL_mv, spContI_mv, contI_0, contI_1, z0, z1, z2, z3, hlen, ht, b1, Int.toNat_natCast, Nat.mul_one, Nat.zero_add, List.length_map, h])
        refine A_round ?_
        simp only [go_sem, seval, eq_self, reduceCtorEq, cE2_at, spReadsL_mv, spContI_mv, contI_0, contI_1, w0, w1, w2, w3, hlen, ht, b2, Int.toNat_natCast, Nat.mul_one, Nat.zero_add, List.length_map]
        repeat' ((first | (refine AG_of ?_ ?_ <;> intro h) | (refine AB_of ?_ ?_ <;> intro h) | (refine A_draw_of [] [] (by kernel_rfl) ?_ <;> have h := mark)) <;> simp only [go_sem, seval, eq_self, reduceCtorEq, cE2_at, spReadsL_mv, spContI_mv, contI_0, contI_1, w0, w1, w2, w3, hlen, ht, b2, Int.toNat_natCast, Nat.mul_one, Nat.zero_add, List.length_map, h])
        refine A_round ?_
        simp only [go_sem, seval, eq_self, reduceCtorEq, hR]
        repeat' ((first | (refine AG_of ?_ ?_ <;> intro h) | (refine AB_of ?_ ?_ <;> intro h) | (refine A_draw_of [] [] (by kernel_rfl) ?_ <;> have h := mark)) <;> simp only [go_sem, seval, eq_self, reduceCtorEq, hR, h])
        all_goals (first | refine fin_ret ?_ | refine fin_normal ?_)
        all_goals simp only [resOf, Tryz.results87, Tryz.ntmps87, go_sem, seval, eq_self, reduceCtorEq, iv, ownOr]
    · cases b2 : (oAt o k' == 1)
      ·
        have e : sentF o [(k : Int), (k' : Int)] = [(k : Int)] := by simp at b1 b2; simp [sentF, b1, b2]
        rw [e]
        simp only [go_sem, seval, eq_self, reduceCtorEq, cE2_at, spReadsL_mv, spContI_mv, contI_0, contI_1, hR, ownV]
        repeat' ((first | (refine AG_of ?_ ?_ <;> intro h) | (refine AB_of ?_ ?_ <;> intro h) | (refine A_draw_of [] [] (by kernel_rfl) ?_ <;> have h := mark)) <;> simp only [go_sem, seval, eq_self, reduceCtorEq, cE2_at, spReadsL_mv, spContI_mv, contI_0, contI_1, hR, ownV, h])
        refine A_round ?_
        simp only [go_sem, seval, eq_self, reduceCtorEq, cE2_at, spReadsL_mv, spContI_mv, contI_0, contI_1, z0, z1, z2, z3, hlen, ht, b1, Int.toNat_natCast, Nat.mul_one, Nat.zero_add, List.length_map]
        repeat' ((first | (refine AG_of ?_ ?_ <;> intro h) | (refine AB_of ?_ ?_ <;> intro h) | (refine A_draw_of [] [] (by kernel_rfl) ?_ <;> have h := mark)) <;> simp only [go_sem, seval, eq_self, reduceCtorEq, cE2_at, spReadsL_mv, spContI_mv, contI_0, contI_1, z0, z1, z2, z3, hlen, ht, b1, Int.toNat_natCast, Nat.mul_one, Nat.zero_add, List.length_map, h])
        refine A_round ?_
        simp only [go_sem, seval, eq_self, reduceCtorEq, cE2_at, spReadsL_mv, spContI_mv, contI_0, contI_1, w0, w1, w2, w3, hlen, ht, b2, Int.toNat_natCast, Nat.mul_one, Nat.zero_add, List.length_map]
        repeat' ((first | (refine AG_of ?_ ?_ <;> intro h) | (refine AB_of ?_ ?_ <;> intro h) | (refine A_draw_of [] [] (by kernel_rfl) ?_ <;> have h := mark)) <;> simp only [go_sem, seval, eq_self, reduceCtorEq, cE2_at, spReadsL_mv, spContI_mv, contI_0, contI_1, w0, w1, w2, w3, hlen, ht, b2, Int.toNat_natCast, Nat.mul_one, Nat.zero_add, List.length_map, h])
        refine A_round ?_
        simp only [go_sem, seval, eq_self, reduceCtorEq, hR]
        repeat' ((first | (refine AG_of ?_ ?_ <;> intro h) | (refine AB_of ?_ ?_ <;> intro h) | (refine A_draw_of [] [] (by kernel_rfl) ?_ <;> have h := mark)) <;> simp only [go_sem, seval, eq_self, reduceCtorEq, hR, h])
        all_goals (first | refine fin_ret ?_ | refine fin_normal ?_)
        all_goals simp only [resOf, Tryz.results87, Tryz.ntmps87, go_sem, seval, eq_self, reduceCtorEq, iv, ownOr]
      · cases b3 : ((k : Int) == (k' : Int))
        · have bnat : ¬ ((k' : Int) = k) := by simp at b3; omega
          have e : sentF o [(k : Int), (k' : Int)] = [(k : Int), (k' : Int)] := by simp at b1 b2; simp [sentF, b1, b2, bnat]
          rw [e]
          simp only [go_sem, seval, eq_self, reduceCtorEq, cE2_at, spReadsL_mv, spContI_mv, contI_0, contI_1, hR, ownV]
          repeat' ((first | (refine AG_of ?_ ?_ <;> intro h) | (refine AB_of ?_ ?_ <;> intro h) | (refine A_draw_of [] [] (by kernel_rfl) ?_ <;> have h := mark)) <;> simp only [go_sem, seval, eq_self, reduceCtorEq, cE2_at, spReadsL_mv, spContI_mv, contI_0, contI_1, hR, ownV, h])
          refine A_round ?_
          simp only [go_sem, seval, eq_self, reduceCtorEq, cE2_at, spReadsL_mv, spContI_mv, contI_0, contI_1, z0, z1, z2, z3, hlen, ht, b1, Int.toNat_natCast, Nat.mul_one, Nat.zero_add, List.length_map]
          repeat' ((first | (refine AG_of ?_ ?_ <;> intro h) | (refine AB_of ?_ ?_ <;> intro h) | (refine A_draw_of [] [] (by kernel_rfl) ?_ <;> have h := mark)) <;> simp only [go_sem, seval, eq_self, reduceCtorEq, cE2_at, spReadsL_mv, spContI_mv, contI_0, contI_1, z0, z1, z2, z3, hlen, ht, b1, Int.toNat_natCast, Nat.mul_one, Nat.zero_add, List.length_map, h])
          refine A_round ?_
          simp only [go_sem, seval, eq_self, reduceCtorEq, cE2_at, spReadsL_mv, spContI_mv, contI_0, contI_1, w0, w1, w2, w3, hlen, ht, b2, b3, Int.toNat_natCast, Nat.mul_one, Nat.zero_add, List.length_map]
          repeat' ((first | (refine AG_of ?_ ?_ <;> intro h) | (refine AB_of ?_ ?_ <;> intro h) | (refine A_draw_of [] [] (by kernel_rfl) ?_ <;> have h := mark)) <;> simp only [go_sem, seval, eq_self, reduceCtorEq, cE2_at, spReadsL_mv, spContI_mv, contI_0, contI_1, w0, w1, w2, w3, hlen, ht, b2, b3, Int.toNat_natCast, Nat.mul_one, Nat.zero_add, List.length_map, h])
          refine A_round ?_
          simp only [go_sem, seval, eq_self, reduceCtorEq, hR]
          repeat' ((first | (refine AG_of ?_ ?_ <;> intro h) | (refine AB_of ?_ ?_ <;> intro h) | (refine A_draw_of [] [] (by kernel_rfl) ?_ <;> have h := mark)) <;> simp only [go_sem, seval, eq_self, reduceCtorEq, hR, h])
          all_goals (first | refine fin_ret ?_ | refine fin_normal ?_)
          all_goals simp only [resOf, Tryz.results87, Tryz.ntmps87, go_sem, seval, eq_self, reduceCtorEq, iv, ownOr]
        · have bnat : ((k' : Int) = k) := by simp at b3; omega
          have e : sentF o [(k : Int), (k' : Int)] = [(k : Int)] := by simp at b1 b2; simp [sentF, b1, b2, bnat]
          rw [e]
          simp only [go_sem, seval, eq_self, reduceCtorEq, cE2_at, spReadsL_mv, spContI_mv, contI_0, contI_1, hR, ownV]
          repeat' ((first | (refine AG_of ?_ ?_ <;> intro h) | (refine AB_of ?_ ?_ <;> intro h) | (refine A_draw_of [] [] (by kernel_rfl) ?_ <;> have h := mark)) <;> simp only [go_sem, seval, eq_self, reduceCtorEq, cE2_at, spReadsL_mv, spContI_mv, contI_0, contI_1, hR, ownV, h])
          refine A_round ?_
          simp only [go_sem, seval, eq_self, reduceCtorEq, cE2_at, spReadsL_mv, spContI_mv, contI_0, contI_1, z0, z1, z2, z3, hlen, ht, b1, Int.toNat_natCast, Nat.mul_one, Nat.zero_add, List.length_map]
          repeat' ((first | (refine AG_of ?_ ?_ <;> intro h) | (refine AB_of ?_ ?_ <;> intro h) | (refine A_draw_of [] [] (by kernel_rfl) ?_ <;> have h := mark)) <;> simp only [go_sem, seval, eq_self, reduceCtorEq, cE2_at, spReadsL_mv, spContI_mv, contI_0, contI_1, z0, z1, z2, z3, hlen, ht, b1, Int.toNat_natCast, Nat.mul_one, Nat.zero_add, List.length_map, h])
          refine A_round ?_
          simp only [go_sem, seval, eq_self, reduceCtorEq, cE2_at, spReadsL_mv, spContI_mv, contI_0, contI_1, w0, w1, w2, w3, hlen, ht, b2, b3, Int.toNat_natCast, Nat.mul_one, Nat.zero_add, List.length_map]
          repeat' ((first | (refine AG_of ?_ ?_ <;> intro h) | (refine AB_of ?_ ?_ <;> intro h) | (refine A_draw_of [] [] (by kernel_rfl) ?_ <;> have h := mark)) <;> simp only [go_sem, seval, eq_self, reduceCtorEq, cE2_at, spReadsL_mv, spContI_mv, contI_0, contI_1, w0, w1, w2, w3, hlen, ht, b2, b3, Int.toNat_natCast, Nat.mul_one, Nat.zero_add, List.length_map, h])
          refine A_round ?_
          simp only [go_sem, seval, eq_self, reduceCtorEq, hR]
          repeat' ((first | (refine AG_of ?_ ?_ <;> intro h) | (refine AB_of ?_ ?_ <;> intro h) | (refine A_draw_of [] [] (by kernel_rfl) ?_ <;> have h := mark)) <;> simp only [go_sem, seval, eq_self, reduceCtorEq, hR, h])
          all_goals (first | refine fin_ret ?_ | refine fin_normal ?_)
          all_goals simp only [resOf, Tryz.results87, Tryz.ntmps87, go_sem, seval, eq_self, reduceCtorEq, iv, ownOr]

set_option maxHeartbeats 4000000 in
theorem rsent_impl : Impl Tryz.prog 65 spSent := by
  refine impl_walk mixed cE2_ok eqT_ok Tryz.func65 rfl Tryz.ntmps65 (by kernel_rfl) ?_
  intro xs r h
  unfold spSent at h
  simp only at h
  (try split at h) <;> try (cases (show none = some r from h); done)
  rename_i op d a b imm y
  obtain ⟨o, ho, h2⟩ := Option.bind_eq_some_iff.1 h
  clear h
  cases h2
  obtain ⟨rfl, hlen⟩ := ownOf_eq ho
  clear ho
  have ht := take_iv hlen
  refine ⟨by simp [ownV], ?_⟩
  obtain ⟨l, hl⟩ : ∃ l, readsL ⟨op, d, a, b, imm⟩ = l := ⟨_, rfl⟩
  have hR := readsL_v op d a b imm hl
  have hl2 := reads_len ⟨op, d, a, b, imm⟩
  have hbd : ∀ r ∈ l, 1 ≤ r ∧ r < 16 := fun r hr => reads_bd (i := ⟨op, d, a, b, imm⟩) (r := r) (by rw [hl]; exact hr)
  rw [hl] at hl2
  unfold sentL
  rw [hl]
  clear hl
  match l, hl2, hbd, hR with
  | [], _, _, hR =>
    simp only [List.isEmpty_nil, if_true] at hR
    simp only [go_sem, seval, eq_self, reduceCtorEq, cE2_at, spReadsL_mv, spIndexI_mv, idxI_0, idxI_1, spOn_mv, hR, ownV]
    repeat' ((first | (refine AG_of ?_ ?_ <;> intro h) | (refine AB_of ?_ ?_ <;> intro h) | (refine A_draw_of [] [] (by kernel_rfl) ?_ <;> have h := mark)) <;> simp only [go_sem, seval, eq_self, reduceCtorEq, cE2_at, spReadsL_mv, spIndexI_mv, idxI_0, idxI_1, spOn_mv, hR, ownV, h])
    refine A_round ?_
    simp only [go_sem, seval, eq_self, reduceCtorEq, hR]
    repeat' ((first | (refine AG_of ?_ ?_ <;> intro h) | (refine AB_of ?_ ?_ <;> intro h) | (refine A_draw_of [] [] (by kernel_rfl) ?_ <;> have h := mark)) <;> simp only [go_sem, seval, eq_self, reduceCtorEq, hR, h])
    all_goals (first | refine fin_ret ?_ | refine fin_normal ?_)
    all_goals simp only [resOf, Tryz.results65, Tryz.ntmps65, go_sem, seval, eq_self, reduceCtorEq]
    all_goals rfl
  | [r], _, hbd, hR =>
    obtain ⟨u0, u1⟩ := hbd r (by simp)
    obtain ⟨k, rfl⟩ : ∃ k : Nat, r = k := ⟨Int.toNat r, by omega⟩
    have z0 := Int.natCast_nonneg k
    have z1 : (k : Int) < 16 := u1
    have z2 := drop_iv (o := o) (k := k) (by omega)
    have z3 : spOn.fn [.agg (o.map iv), .s (.int .i64 k)] = some (.s (.int .i64 (oAt o k))) := by
      rw [spOn_v hlen, show onI o k = oAt o k from by unfold onI; rw [if_neg (by omega)]]
    simp only [List.isEmpty_cons, Bool.false_eq_true, if_false, List.map_cons, List.map_nil, iv] at hR
    cases b1 : (oAt o k == 1)
    · have e : sentF o [(k : Int)] = [] := by simp at b1; simp [sentF, b1]
      rw [e]
      simp only [go_sem, seval, eq_self, reduceCtorEq, cE2_at, spReadsL_mv, spIndexI_mv, idxI_0, idxI_1, spOn_mv, hR, ownV]
      repeat' ((first | (refine AG_of ?_ ?_ <;> intro h) | (refine AB_of ?_ ?_ <;> intro h) | (refine A_draw_of [] [] (by kernel_rfl) ?_ <;> have h := mark)) <;> simp only [go_sem, seval, eq_self, reduceCtorEq, cE2_at, spReadsL_mv, spIndexI_mv, idxI_0, idxI_1, spOn_mv, hR, ownV, h])
      refine A_round ?_
      simp only [go_sem, seval, eq_self, reduceCtorEq, cE2_at, spReadsL_mv, spIndexI_mv, idxI_0, idxI_1, spOn_mv, z0, z1, z2, z3, hlen, ht, b1, Int.toNat_natCast, Nat.mul_one, Nat.zero_add, List.length_map]
      repeat' ((first | (refine AG_of ?_ ?_ <;> intro h) | (refine AB_of ?_ ?_ <;> intro h) | (refine A_draw_of [] [] (by kernel_rfl) ?_ <;> have h := mark)) <;> simp only [go_sem, seval, eq_self, reduceCtorEq, cE2_at, spReadsL_mv, spIndexI_mv, idxI_0, idxI_1, spOn_mv, z0, z1, z2, z3, hlen, ht, b1, Int.toNat_natCast, Nat.mul_one, Nat.zero_add, List.length_map, h])
      refine A_round ?_
      simp only [go_sem, seval, eq_self, reduceCtorEq, hR]
      repeat' ((first | (refine AG_of ?_ ?_ <;> intro h) | (refine AB_of ?_ ?_ <;> intro h) | (refine A_draw_of [] [] (by kernel_rfl) ?_ <;> have h := mark)) <;> simp only [go_sem, seval, eq_self, reduceCtorEq, hR, h])
      all_goals (first | refine fin_ret ?_ | refine fin_normal ?_)
      all_goals simp only [resOf, Tryz.results65, Tryz.ntmps65, go_sem, seval, eq_self, reduceCtorEq]
      all_goals rfl
    · have e : sentF o [(k : Int)] = [(k : Int)] := by simp at b1; simp [sentF, b1]
      rw [e]
      simp only [go_sem, seval, eq_self, reduceCtorEq, cE2_at, spReadsL_mv, spIndexI_mv, idxI_0, idxI_1, spOn_mv, hR, ownV]
      repeat' ((first | (refine AG_of ?_ ?_ <;> intro h) | (refine AB_of ?_ ?_ <;> intro h) | (refine A_draw_of [] [] (by kernel_rfl) ?_ <;> have h := mark)) <;> simp only [go_sem, seval, eq_self, reduceCtorEq, cE2_at, spReadsL_mv, spIndexI_mv, idxI_0, idxI_1, spOn_mv, hR, ownV, h])
      refine A_round ?_
      simp only [go_sem, seval, eq_self, reduceCtorEq, cE2_at, spReadsL_mv, spIndexI_mv, idxI_0, idxI_1, spOn_mv, z0, z1, z2, z3, hlen, ht, b1, Int.toNat_natCast, Nat.mul_one, Nat.zero_add, List.length_map]
      repeat' ((first | (refine AG_of ?_ ?_ <;> intro h) | (refine AB_of ?_ ?_ <;> intro h) | (refine A_draw_of [] [] (by kernel_rfl) ?_ <;> have h := mark)) <;> simp only [go_sem, seval, eq_self, reduceCtorEq, cE2_at, spReadsL_mv, spIndexI_mv, idxI_0, idxI_1, spOn_mv, z0, z1, z2, z3, hlen, ht, b1, Int.toNat_natCast, Nat.mul_one, Nat.zero_add, List.length_map, h])
      refine A_round ?_
      simp only [go_sem, seval, eq_self, reduceCtorEq, hR]
      repeat' ((first | (refine AG_of ?_ ?_ <;> intro h) | (refine AB_of ?_ ?_ <;> intro h) | (refine A_draw_of [] [] (by kernel_rfl) ?_ <;> have h := mark)) <;> simp only [go_sem, seval, eq_self, reduceCtorEq, hR, h])
      all_goals (first | refine fin_ret ?_ | refine fin_normal ?_)
      all_goals simp only [resOf, Tryz.results65, Tryz.ntmps65, go_sem, seval, eq_self, reduceCtorEq, iv, ownOr]
  | [r, r'], _, hbd, hR =>
    obtain ⟨u0, u1⟩ := hbd r (by simp)
    obtain ⟨k, rfl⟩ : ∃ k : Nat, r = k := ⟨Int.toNat r, by omega⟩
    have z0 := Int.natCast_nonneg k
    have z1 : (k : Int) < 16 := u1
    have z2 := drop_iv (o := o) (k := k) (by omega)
    have z3 : spOn.fn [.agg (o.map iv), .s (.int .i64 k)] = some (.s (.int .i64 (oAt o k))) := by
      rw [spOn_v hlen, show onI o k = oAt o k from by unfold onI; rw [if_neg (by omega)]]
    obtain ⟨v0, v1⟩ := hbd r' (by simp)
    obtain ⟨k', rfl⟩ : ∃ k : Nat, r' = k := ⟨Int.toNat r', by omega⟩
    have w0 := Int.natCast_nonneg k'
    have w1 : (k' : Int) < 16 := v1
    have w2 := drop_iv (o := o) (k := k') (by omega)
    have w3 : spOn.fn [.agg (o.map iv), .s (.int .i64 k')] = some (.s (.int .i64 (oAt o k'))) := by
      rw [spOn_v hlen, show onI o k' = oAt o k' from by unfold onI; rw [if_neg (by omega)]]
    simp only [List.isEmpty_cons, Bool.false_eq_true, if_false, List.map_cons, List.map_nil, iv] at hR
    cases b1 : (oAt o k == 1)
    · cases b2 : (oAt o k' == 1)
      ·
        have e : sentF o [(k : Int), (k' : Int)] = [] := by simp at b1 b2; simp [sentF, b1, b2]
        rw [e]
        simp only [go_sem, seval, eq_self, reduceCtorEq, cE2_at, spReadsL_mv, spIndexI_mv, idxI_0, idxI_1, spOn_mv, hR, ownV]
        repeat' ((first | (refine AG_of ?_ ?_ <;> intro h) | (refine AB_of ?_ ?_ <;> intro h) | (refine A_draw_of [] [] (by kernel_rfl) ?_ <;> have h := mark)) <;> simp only [go_sem, seval, eq_self, reduceCtorEq, cE2_at, spReadsL_mv, spIndexI_mv, idxI_0, idxI_1, spOn_mv, hR, ownV, h])
        refine A_round ?_
        simp only [go_sem, seval, eq_self, reduceCtorEq, cE2_at, spReadsL_mv, spIndexI_mv, idxI_0, idxI_1, spOn_mv, z0, z1, z2, z3, hlen, ht, b1, Int.toNat_natCast, Nat.mul_one, Nat.zero_add, List.length_map]
        repeat' ((first | (refine AG_of ?_ ?_ <;> intro h) | (refine AB_of ?_ ?_ <;> intro h) | (refine A_draw_of [] [] (by kernel_rfl) ?_ <;> have h := mark)) <;> simp only [go_sem, seval, eq_self, reduceCtorEq, cE2_at, spReadsL_mv, spIndexI_mv, idxI_0, idxI_1, spOn_mv, z0, z1, z2, z3, hlen, ht, b1, Int.toNat_natCast, Nat.mul_one, Nat.zero_add, List.length_map, h])
        refine A_round ?_
        simp only [go_sem, seval, eq_self, reduceCtorEq, cE2_at, spReadsL_mv, spIndexI_mv, idxI_0, idxI_1, spOn_mv, w0, w1, w2, w3, hlen, ht, b2, Int.toNat_natCast, Nat.mul_one, Nat.zero_add, List.length_map]
        repeat' ((first | (refine AG_of ?_ ?_ <;> intro h) | (refine AB_of ?_ ?_ <;> intro h) | (refine A_draw_of [] [] (by kernel_rfl) ?_ <;> have h := mark)) <;> simp only [go_sem, seval, eq_self, reduceCtorEq, cE2_at, spReadsL_mv, spIndexI_mv, idxI_0, idxI_1, spOn_mv, w0, w1, w2, w3, hlen, ht, b2, Int.toNat_natCast, Nat.mul_one, Nat.zero_add, List.length_map, h])
        refine A_round ?_
        simp only [go_sem, seval, eq_self, reduceCtorEq, hR]
        repeat' ((first | (refine AG_of ?_ ?_ <;> intro h) | (refine AB_of ?_ ?_ <;> intro h) | (refine A_draw_of [] [] (by kernel_rfl) ?_ <;> have h := mark)) <;> simp only [go_sem, seval, eq_self, reduceCtorEq, hR, h])
        all_goals (first | refine fin_ret ?_ | refine fin_normal ?_)
        all_goals simp only [resOf, Tryz.results65, Tryz.ntmps65, go_sem, seval, eq_self, reduceCtorEq, iv, ownOr]
      ·
        have e : sentF o [(k : Int), (k' : Int)] = [(k' : Int)] := by simp at b1 b2; simp [sentF, b1, b2]
        rw [e]
        simp only [go_sem, seval, eq_self, reduceCtorEq, cE2_at, spReadsL_mv, spIndexI_mv, idxI_0, idxI_1, spOn_mv, hR, ownV]
        repeat' ((first | (refine AG_of ?_ ?_ <;> intro h) | (refine AB_of ?_ ?_ <;> intro h) | (refine A_draw_of [] [] (by kernel_rfl) ?_ <;> have h := mark)) <;> simp only [go_sem, seval, eq_self, reduceCtorEq, cE2_at, spReadsL_mv, spIndexI_mv, idxI_0, idxI_1, spOn_mv, hR, ownV, h])
        refine A_round ?_
        simp only [go_sem, seval, eq_self, reduceCtorEq, cE2_at, spReadsL_mv, spIndexI_mv, idxI_0, idxI_1, spOn_mv, z0, z1, z2, z3, hlen, ht, b1, Int.toNat_natCast, Nat.mul_one, Nat.zero_add, List.length_map]
        repeat' ((first | (refine AG_of ?_ ?_ <;> intro h) | (refine AB_of ?_ ?_ <;> intro h) | (refine A_draw_of [] [] (by kernel_rfl) ?_ <;> have h := mark)) <;> simp only [go_sem, seval, eq_self, reduceCtorEq, cE2_at, spReadsL_mv, spIndexI_mv, idxI_0, idxI_1, spOn_mv, z0, z1, z2, z3, hlen, ht, b1, Int.toNat_natCast, Nat.mul_one, Nat.zero_add, List.length_map, h])
        refine A_round ?_
        simp only [go_sem, seval, eq_self, reduceCtorEq, cE2_at, spReadsL_mv, spIndexI_mv, idxI_0, idxI_1, spOn_mv, w0, w1, w2, w3, hlen, ht, b2, Int.toNat_natCast, Nat.mul_one, Nat.zero_add, List.length_map]
        repeat' ((first | (refine AG_of ?_ ?_ <;> intro h) | (refine AB_of ?_ ?_ <;> intro h) | (refine A_draw_of [] [] (by kernel_rfl) ?_ <;> have h := mark)) <;> simp only [go_sem, seval, eq_self, reduceCtorEq, cE2_at, spReadsL_mv, spIndexI_mv, idxI_0, idxI_1, spOn_mv, w0, w1, w2, w3, hlen, ht, b2, Int.toNat_natCast, Nat.mul_one, Nat.zero_add, List.length_map, h])
        refine A_round ?_
        simp only [go_sem, seval, eq_self, reduceCtorEq, hR]
        repeat' ((first | (refine AG_of ?_ ?_ <;> intro h) | (refine AB_of ?_ ?_ <;> intro h) | (refine A_draw_of [] [] (by kernel_rfl) ?_ <;> have h := mark)) <;> simp only [go_sem, seval, eq_self, reduceCtorEq, hR, h])
        all_goals (first | refine fin_ret ?_ | refine fin_normal ?_)
        all_goals simp only [resOf, Tryz.results65, Tryz.ntmps65, go_sem, seval, eq_self, reduceCtorEq, iv, ownOr]
    · cases b2 : (oAt o k' == 1)
      ·
        have e : sentF o [(k : Int), (k' : Int)] = [(k : Int)] := by simp at b1 b2; simp [sentF, b1, b2]
        rw [e]
        simp only [go_sem, seval, eq_self, reduceCtorEq, cE2_at, spReadsL_mv, spIndexI_mv, idxI_0, idxI_1, spOn_mv, hR, ownV]
        repeat' ((first | (refine AG_of ?_ ?_ <;> intro h) | (refine AB_of ?_ ?_ <;> intro h) | (refine A_draw_of [] [] (by kernel_rfl) ?_ <;> have h := mark)) <;> simp only [go_sem, seval, eq_self, reduceCtorEq, cE2_at, spReadsL_mv, spIndexI_mv, idxI_0, idxI_1, spOn_mv, hR, ownV, h])
        refine A_round ?_
        simp only [go_sem, seval, eq_self, reduceCtorEq, cE2_at, spReadsL_mv, spIndexI_mv, idxI_0, idxI_1, spOn_mv, z0, z1, z2, z3, hlen, ht, b1, Int.toNat_natCast, Nat.mul_one, Nat.zero_add, List.length_map]
        repeat' ((first | (refine AG_of ?_ ?_ <;> intro h) | (refine AB_of ?_ ?_ <;> intro h) | (refine A_draw_of [] [] (by kernel_rfl) ?_ <;> have h := mark)) <;> simp only [go_sem, seval, eq_self, reduceCtorEq, cE2_at, spReadsL_mv, spIndexI_mv, idxI_0, idxI_1, spOn_mv, z0, z1, z2, z3, hlen, ht, b1, Int.toNat_natCast, Nat.mul_one, Nat.zero_add, List.length_map, h])
        refine A_round ?_
        simp only [go_sem, seval, eq_self, reduceCtorEq, cE2_at, spReadsL_mv, spIndexI_mv, idxI_0, idxI_1, spOn_mv, w0, w1, w2, w3, hlen, ht, b2, Int.toNat_natCast, Nat.mul_one, Nat.zero_add, List.length_map]
        repeat' ((first | (refine AG_of ?_ ?_ <;> intro h) | (refine AB_of ?_ ?_ <;> intro h) | (refine A_draw_of [] [] (by kernel_rfl) ?_ <;> have h := mark)) <;> simp only [go_sem, seval, eq_self, reduceCtorEq, cE2_at, spReadsL_mv, spIndexI_mv, idxI_0, idxI_1, spOn_mv, w0, w1, w2, w3, hlen, ht, b2, Int.toNat_natCast, Nat.mul_one, Nat.zero_add, List.length_map, h])
        refine A_round ?_
        simp only [go_sem, seval, eq_self, reduceCtorEq, hR]
        repeat' ((first | (refine AG_of ?_ ?_ <;> intro h) | (refine AB_of ?_ ?_ <;> intro h) | (refine A_draw_of [] [] (by kernel_rfl) ?_ <;> have h := mark)) <;> simp only [go_sem, seval, eq_self, reduceCtorEq, hR, h])
        all_goals (first | refine fin_ret ?_ | refine fin_normal ?_)
        all_goals simp only [resOf, Tryz.results65, Tryz.ntmps65, go_sem, seval, eq_self, reduceCtorEq, iv, ownOr]
      · cases b3 : ((k : Int) == (k' : Int))
        · have bnat : ¬ ((k' : Int) = k) := by simp at b3; omega
          have e : sentF o [(k : Int), (k' : Int)] = [(k : Int), (k' : Int)] := by simp at b1 b2; simp [sentF, b1, b2, bnat]
          rw [e]
          simp only [go_sem, seval, eq_self, reduceCtorEq, cE2_at, spReadsL_mv, spIndexI_mv, idxI_0, idxI_1, spOn_mv, hR, ownV]
          repeat' ((first | (refine AG_of ?_ ?_ <;> intro h) | (refine AB_of ?_ ?_ <;> intro h) | (refine A_draw_of [] [] (by kernel_rfl) ?_ <;> have h := mark)) <;> simp only [go_sem, seval, eq_self, reduceCtorEq, cE2_at, spReadsL_mv, spIndexI_mv, idxI_0, idxI_1, spOn_mv, hR, ownV, h])
          refine A_round ?_
          simp only [go_sem, seval, eq_self, reduceCtorEq, cE2_at, spReadsL_mv, spIndexI_mv, idxI_0, idxI_1, spOn_mv, z0, z1, z2, z3, hlen, ht, b1, Int.toNat_natCast, Nat.mul_one, Nat.zero_add, List.length_map]
          repeat' ((first | (refine AG_of ?_ ?_ <;> intro h) | (refine AB_of ?_ ?_ <;> intro h) | (refine A_draw_of [] [] (by kernel_rfl) ?_ <;> have h := mark)) <;> simp only [go_sem, seval, eq_self, reduceCtorEq, cE2_at, spReadsL_mv, spIndexI_mv, idxI_0, idxI_1, spOn_mv, z0, z1, z2, z3, hlen, ht, b1, Int.toNat_natCast, Nat.mul_one, Nat.zero_add, List.length_map, h])
          refine A_round ?_
          simp only [go_sem, seval, eq_self, reduceCtorEq, cE2_at, spReadsL_mv, spIndexI_mv, idxI_0, idxI_1, spOn_mv, w0, w1, w2, w3, hlen, ht, b2, b3, Int.toNat_natCast, Nat.mul_one, Nat.zero_add, List.length_map]
          repeat' ((first | (refine AG_of ?_ ?_ <;> intro h) | (refine AB_of ?_ ?_ <;> intro h) | (refine A_draw_of [] [] (by kernel_rfl) ?_ <;> have h := mark)) <;> simp only [go_sem, seval, eq_self, reduceCtorEq, cE2_at, spReadsL_mv, spIndexI_mv, idxI_0, idxI_1, spOn_mv, w0, w1, w2, w3, hlen, ht, b2, b3, Int.toNat_natCast, Nat.mul_one, Nat.zero_add, List.length_map, h])
          refine A_round ?_
          simp only [go_sem, seval, eq_self, reduceCtorEq, hR]
          repeat' ((first | (refine AG_of ?_ ?_ <;> intro h) | (refine AB_of ?_ ?_ <;> intro h) | (refine A_draw_of [] [] (by kernel_rfl) ?_ <;> have h := mark)) <;> simp only [go_sem, seval, eq_self, reduceCtorEq, hR, h])
          all_goals (first | refine fin_ret ?_ | refine fin_normal ?_)
          all_goals simp only [resOf, Tryz.results65, Tryz.ntmps65, go_sem, seval, eq_self, reduceCtorEq, iv, ownOr]
        · have bnat : ((k' : Int) = k) := by simp at b3; omega
          have e : sentF o [(k : Int), (k' : Int)] = [(k : Int)] := by simp at b1 b2; simp [sentF, b1, b2, bnat]
          rw [e]
          simp only [go_sem, seval, eq_self, reduceCtorEq, cE2_at, spReadsL_mv, spIndexI_mv, idxI_0, idxI_1, spOn_mv, hR, ownV]
          repeat' ((first | (refine AG_of ?_ ?_ <;> intro h) | (refine AB_of ?_ ?_ <;> intro h) | (refine A_draw_of [] [] (by kernel_rfl) ?_ <;> have h := mark)) <;> simp only [go_sem, seval, eq_self, reduceCtorEq, cE2_at, spReadsL_mv, spIndexI_mv, idxI_0, idxI_1, spOn_mv, hR, ownV, h])
          refine A_round ?_
          simp only [go_sem, seval, eq_self, reduceCtorEq, cE2_at, spReadsL_mv, spIndexI_mv, idxI_0, idxI_1, spOn_mv, z0, z1, z2, z3, hlen, ht, b1, Int.toNat_natCast, Nat.mul_one, Nat.zero_add, List.length_map]
          repeat' ((first | (refine AG_of ?_ ?_ <;> intro h) | (refine AB_of ?_ ?_ <;> intro h) | (refine A_draw_of [] [] (by kernel_rfl) ?_ <;> have h := mark)) <;> simp only [go_sem, seval, eq_self, reduceCtorEq, cE2_at, spReadsL_mv, spIndexI_mv, idxI_0, idxI_1, spOn_mv, z0, z1, z2, z3, hlen, ht, b1, Int.toNat_natCast, Nat.mul_one, Nat.zero_add, List.length_map, h])
          refine A_round ?_
          simp only [go_sem, seval, eq_self, reduceCtorEq, cE2_at, spReadsL_mv, spIndexI_mv, idxI_0, idxI_1, spOn_mv, w0, w1, w2, w3, hlen, ht, b2, b3, Int.toNat_natCast, Nat.mul_one, Nat.zero_add, List.length_map]
          repeat' ((first | (refine AG_of ?_ ?_ <;> intro h) | (refine AB_of ?_ ?_ <;> intro h) | (refine A_draw_of [] [] (by kernel_rfl) ?_ <;> have h := mark)) <;> simp only [go_sem, seval, eq_self, reduceCtorEq, cE2_at, spReadsL_mv, spIndexI_mv, idxI_0, idxI_1, spOn_mv, w0, w1, w2, w3, hlen, ht, b2, b3, Int.toNat_natCast, Nat.mul_one, Nat.zero_add, List.length_map, h])
          refine A_round ?_
          simp only [go_sem, seval, eq_self, reduceCtorEq, hR]
          repeat' ((first | (refine AG_of ?_ ?_ <;> intro h) | (refine AB_of ?_ ?_ <;> intro h) | (refine A_draw_of [] [] (by kernel_rfl) ?_ <;> have h := mark)) <;> simp only [go_sem, seval, eq_self, reduceCtorEq, hR, h])
          all_goals (first | refine fin_ret ?_ | refine fin_normal ?_)
          all_goals simp only [resOf, Tryz.results65, Tryz.ntmps65, go_sem, seval, eq_self, reduceCtorEq, iv, ownOr]


end Go.Proofs.YtkfmecmmbnehjaaGreat
