/-
An instruction that came in by value: five numbers, each within int's range.
-/
import Derived.Test.YtegalldldcaocaaIsa
import Derived.Lib.SmallJoins
namespace Go.Proofs.Ytegalldldcaocaa
open Go.RowKit Go.Joins Go.WideShapes Go.ChangeAt

structure WfI (i : Ins) : Prop where
  op : (Lit.int .i64 i.op).wf = true
  d : (Lit.int .i64 i.d).wf = true
  a : (Lit.int .i64 i.a).wf = true
  b : (Lit.int .i64 i.b).wf = true
  imm : (Lit.int .i64 i.imm).wf = true
def Ins.cells (i : Ins) : List Value := [.int .i64 i.op, .int .i64 i.d, .int .i64 i.a, .int .i64 i.b, .int .i64 i.imm]

theorem cellsOf_ins : Try.prog.cellsOf 23 = 5 := by kernel_rfl
theorem cellsOf_int : Try.prog.cellsOf 3 = 1 := by kernel_rfl

theorem trod_ins {H : Type} {enc : TypeId × Value → H} {W : World} {base : Nat} {spare : Nat → Bool} {held : Bool} {fuel : Nat} {cs : List Value} {x : DataW H × List MemPlace}
    (h : DataW.trod enc Try.prog W base spare held fuel 23 cs = some x) : ∃ i : Ins, cs = i.cells ∧ WfI i := by
  obtain ⟨xs, n, _, rfl, hl, hlen, hf⟩ := DataW.trod_struct Try.underlying23 h
  rw [cellsOf_ins] at hl
  match cs, hl with
  | [c0, c1, c2, c3, c4], _ =>
    match xs, hlen with
    | [y0, y1, y2, y3, y4], _ =>
      have g0 := hf 0 _ rfl
      have g1 := hf 1 _ rfl
      have g2 := hf 2 _ rfl
      have g3 := hf 3 _ rfl
      have g4 := hf 4 _ rfl
      simp [cellsOf_int] at g0 g1 g2 g3 g4
      obtain ⟨n0, e0, _, w0⟩ := DataW.trod_int Try.underlying3 g0
      obtain ⟨n1, e1, _, w1⟩ := DataW.trod_int Try.underlying3 g1
      obtain ⟨n2, e2, _, w2⟩ := DataW.trod_int Try.underlying3 g2
      obtain ⟨n3, e3, _, w3⟩ := DataW.trod_int Try.underlying3 g3
      obtain ⟨n4, e4, _, w4⟩ := DataW.trod_int Try.underlying3 g4
      simp at e0 e1 e2 e3 e4
      subst e0 e1 e2 e3 e4
      exact ⟨⟨n0, n1, n2, n3, n4⟩, rfl, ⟨w0, w1, w2, w3, w4⟩⟩

theorem open_ins {H : Type} {enc : TypeId × Value → H} {W : World} {r : Reach} {b0 : Nat} {v : Value} {d : DataW H} {p : List MemPlace}
    (hv : Value.okWide Try.prog W r b0 23 v) (h : DataW.Trod enc Try.prog W 0 (fun _ => true) true 23 v d p) :
    ∃ i : Ins, v = i.val ∧ WfI i := by
  obtain ⟨cs, rfl, _⟩ := okWide_struct Try.underlying23 hv
  obtain ⟨fuel, hf⟩ := h
  obtain ⟨i, e, w⟩ := trod_ins hf
  refine ⟨i, ?_, w⟩
  obtain ⟨cs⟩ := cs
  simp [Value.cells, Ins.cells] at e
  rw [e]
  rfl

end Go.Proofs.Ytegalldldcaocaa
