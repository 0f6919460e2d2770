/-
The laws of chapter 11: the example, OwnerTells. No condition.
-/
import Derived.Test.YtkfmecmmbnehjaaGreatOb
namespace Go.Proofs.YtkfmecmmbnehjaaGreat
set_option linter.unusedSimpArgs false
set_option linter.unusedVariables false

def spTrue : Spec := ⟨[], fun xs => match xs with
  | [] => some (.s (.bool true))
  | _ => none⟩
def cLaw1 : Orc := upd (upd (upd (upd (upd cRef2 89 (some spSide)) 62 (some spSide)) 35 (some spClosed)) 38 (some spOf)) 8 (some spFew)
theorem cLaw1_ok : ∀ g sp, cLaw1 g = some sp → Impl Tryz.prog g sp := orc_upd (orc_upd (orc_upd (orc_upd (orc_upd cRef2_ok side_impl) rside_impl) rclosed_impl) rowner_impl) few_impl
theorem spSide_mv : spSide.mv = [] := rfl
theorem spClosed_mv : spClosed.mv = [] := rfl
theorem spOf_mv : spOf.mv = [] := rfl
def cLaw2 : Orc := cLaw1
theorem cLaw2_ok : ∀ g sp, cLaw2 g = some sp → Impl Tryz.prog g sp := cLaw1_ok
theorem spTrue_mv : spTrue.mv = [] := rfl
theorem spTrue_fn : spTrue.fn [] = some (.s (.bool true)) := rfl
theorem of_v {p : Prg} (h : p.code.length ≤ 1000000000) : spOf.fn [p.v] = some (.agg ((ofO p).map iv)) := by
  simp only [spOf, prgOf_v, Option.bind_some, if_pos h, ownV]
theorem closed_v {o : List Int} (ho : o.length = 16) (p : Prg) : spClosed.fn [p.v, .agg (o.map iv)] = some (.s (.bool (closedB p o))) := by
  have : ownOf (.agg (o.map iv)) = some o := ownOf_v ho
  simp only [spClosed, prgOf_v, this, Option.bind_some]
theorem side_v {o : List Int} (ho : o.length = 16) (op d a b imm : Int) : spSide.fn [.agg [.s (.int .i64 op), .s (.int .i64 d), .s (.int .i64 a), .s (.int .i64 b), .s (.int .i64 imm)], .agg (o.map iv)] = some (.s (.int .i64 (sideI ⟨op, d, a, b, imm⟩ o))) := by
  have : ownOf (.agg (o.map iv)) = some o := ownOf_v ho
  simp only [spSide, this, Option.bind_some]

end Go.Proofs.YtkfmecmmbnehjaaGreat
