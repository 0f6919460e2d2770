/-
The laws of chapter 11: the example, OwnerTells. No condition.
-/
import Derived.Test.YtalcmfmhifcaeaaGreatOb
namespace Go.Proofs.YtalcmfmhifcaeaaGreat
set_option linter.unusedSimpArgs false
set_option linter.unusedVariables false

def aliveP : Prg := ⟨[⟨17, 2, 1, 0, 4⟩, ⟨26, 3, 2, 0, 0⟩, ⟨41, 0, 0, 0, 0⟩], 0, []⟩
def aliveO : List Int := [0, 1, 1, 2, 2, 2, 2, 2, 2, 2, 2, 2, 2, 2, 2, 2]
def aliveV : V := .agg [.lst false 5 [.agg [.s (.int .i64 17), .s (.int .i64 2), .s (.int .i64 1), .s (.int .i64 0), .s (.int .i64 4)], .agg [.s (.int .i64 26), .s (.int .i64 3), .s (.int .i64 2), .s (.int .i64 0), .s (.int .i64 0)], .agg [.s (.int .i64 41), .s (.int .i64 0), .s (.int .i64 0), .s (.int .i64 0), .s (.int .i64 0)]], .s (.int .i64 0), .s (.slice none 0 0)]
theorem alive_of : spOf.fn [aliveV] = some (.agg (aliveO.map iv)) := by
  have h1 : prgOf aliveV = some aliveP := by kernel_rfl
  have h2 : ofO aliveP = aliveO := by kernel_rfl
  simp only [spOf, h1, Option.bind_some]
  rw [if_pos (by decide), h2]; rfl
theorem alive_closed : spClosed.fn [aliveV, .agg (aliveO.map iv)] = some (.s (.bool true)) := by kernel_rfl
theorem alive_side : spSide.fn [.agg [.s (.int .i64 17), .s (.int .i64 2), .s (.int .i64 1), .s (.int .i64 0), .s (.int .i64 4)], .agg (aliveO.map iv)] = some (.s (.int .i64 1)) := by kernel_rfl
theorem none_of : spOf.fn [.agg [.s (.slice none 0 0), .s (.int .i64 0), .s (.slice none 0 0)]] = some (.agg [.s (.int .i64 0), .s (.int .i64 0), .s (.int .i64 0), .s (.int .i64 0), .s (.int .i64 0), .s (.int .i64 0), .s (.int .i64 0), .s (.int .i64 0), .s (.int .i64 0), .s (.int .i64 0), .s (.int .i64 0), .s (.int .i64 0), .s (.int .i64 0), .s (.int .i64 0), .s (.int .i64 0), .s (.int .i64 0)]) := by kernel_rfl

def spTrue : Spec := ⟨[], fun xs => match xs with
  | [] => some (.s (.bool true))
  | _ => none⟩
def cLaw1 : Orc := upd (upd (upd (upd (upd cRef2 48 (some spSide)) 55 (some spSide)) 20 (some spClosed)) 15 (some spOf)) 5 (some spFew)
theorem cLaw1_ok : ∀ g sp, cLaw1 g = some sp → Impl Tryz.prog g sp := orc_upd (orc_upd (orc_upd (orc_upd (orc_upd cRef2_ok side_impl) rside_impl) rclosed_impl) rowner_impl) few_impl
theorem cLaw1_at : cLaw1 48 = some spSide ∧ cLaw1 55 = some spSide ∧ cLaw1 16 = some spClosed ∧ cLaw1 20 = some spClosed ∧ cLaw1 14 = some spOf ∧
    cLaw1 15 = some spOf ∧ cLaw1 5 = some spFew ∧ cLaw1 28 = some spRightP := ⟨rfl, rfl, rfl, rfl, rfl, rfl, rfl, rfl⟩
theorem spSide_mv : spSide.mv = [] := rfl
theorem spClosed_mv : spClosed.mv = [] := rfl
theorem spOf_mv : spOf.mv = [] := rfl
def cLaw2 : Orc := cLaw1
theorem cLaw2_ok : ∀ g sp, cLaw2 g = some sp → Impl Tryz.prog g sp := cLaw1_ok
theorem cLaw2_at : cLaw2 48 = some spSide ∧ cLaw2 55 = some spSide ∧ cLaw2 16 = some spClosed ∧ cLaw2 20 = some spClosed ∧ cLaw2 14 = some spOf ∧
    cLaw2 15 = some spOf ∧ cLaw2 5 = some spFew ∧ cLaw2 28 = some spRightP := ⟨rfl, rfl, rfl, rfl, rfl, rfl, rfl, rfl⟩
theorem spTrue_mv : spTrue.mv = [] := rfl
theorem spTrue_fn : spTrue.fn [] = some (.s (.bool true)) := rfl
theorem of_v {p : Prg} (h : p.code.length ≤ 1000000000) : spOf.fn [p.v] = some (.agg ((ofO p).map iv)) := by
  simp only [spOf, prgOf_v, Option.bind_some, if_pos h, ownV]
theorem closed_v {o : List Int} (ho : o.length = 16) (p : Prg) : spClosed.fn [p.v, .agg (o.map iv)] = some (.s (.bool (closedB p o))) := by
  have : ownOf (.agg (o.map iv)) = some o := ownOf_v ho
  simp only [spClosed, prgOf_v, this, Option.bind_some]
theorem side_v {o : List Int} (ho : o.length = 16) (op d a b imm : Int) : spSide.fn [.agg [.s (.int .i64 op), .s (.int .i64 d), .s (.int .i64 a), .s (.int .i64 b), .s (.int .i64 imm)], .agg (o.map iv)] = some (.s (.int .i64 (sideI ⟨op, d, a, b, imm⟩ o))) := by
  have : ownOf (.agg (o.map iv)) = some o := ownOf_v ho
  simp only [spSide, this, Option.bind_some]

def spOTells : Spec := ⟨[], fun xs => match xs with
  | [x, y, .agg [.s (.int .i64 _), .s (.int .i64 _), .s (.int .i64 _), .s (.int .i64 _), .s (.int .i64 _)]] => (prgOf x).bind fun _ => (ownOf y).bind fun _ => some (.s (.bool true))
  | _ => none⟩
end Go.Proofs.YtalcmfmhifcaeaaGreat
