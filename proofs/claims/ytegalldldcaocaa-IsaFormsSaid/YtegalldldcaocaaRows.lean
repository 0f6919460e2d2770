/-
  No cell of these rows narrows 'for every input' (looked for: loops, veiled, ifaces, maps, wideKeys, modest, calm, conditions, laid).
  DERIVED. THE GIVEN ROWS OF THIS SEAT. 7 by the template 'for every input the law returns true; each argument reads behind the call as it read before'; 0 by the template 'total and deterministic' (their statements: YtegalldldcaocaaTotals.lean).
  GIVEN WITH THE SEED: the statements are not yours to turn. If you find one false, say at which input.
  Laid BY PROGRAM, IN A SANDBOX (cutbox-rows.mjs): the forced cells as the released guide's own fill.sh prints them over the translation 255bfa4490cec2d6… (all of the seat's roots in one cut). By AI agents, Wed Nov 11 2026. No macro, syntax, notation, axiom, sorry.
-/
import Derived.Test.YtegalldldcaocaaChecked
import GoSem.Claim
import GoSem.ClaimJoined
import GoSem.ClaimMapViews
import Derived.JoinedTies
import Derived.KernelRfl
namespace Go.Proofs.Ytegalldldcaocaa
/- THE CELL 'sum', in the pinned program and in every row, IS THE sha256 OF THE DUMP (.gsa) THAT YtegalldldcaocaaProg.lean LOADS. Nothing in Lean hashes anything: it is a label: what it is worth is what the hold of that sum in a sandbox is worth. -/
noncomputable def Try.pinned : Pinned := { name := "ytegalldldcaocaa", sum := "255bfa4490cec2d6dbb44d3ca548b57e34a0174554036ba09380ba5024667708", checked := Try.checked }
namespace Rows
def none {H : Type} : Left H := { results := [], args := [] }

/-- 'forerunnerlaw2.IsaTells': WHATEVER THE INPUT: true; the input reads as it did. -/
def isaTellsSpec : ChangeSpec := { name := "isaTells", fn := fun _ => fun
  | [d1, d2, d3] => { results := [.lit (.bool true)], args := [d1, d2, d3] }
  | _ => none }
def isaTellsRow : OpenClaim := { program := "ytegalldldcaocaa", sum := "255bfa4490cec2d6dbb44d3ca548b57e34a0174554036ba09380ba5024667708", func := "forerunner/forerunnerlaw2.IsaTells", spec := "isaTells", apart := false }
def IsaTellsSaid : Prop := isaTellsRow.holds Try.pinned (OpenSpec.ofChange isaTellsSpec)

/-- ITS FALSE NEIGHBOUR: 'it returns false'. Refute it at one input. -/
def isaTellsWrong : ChangeSpec := { name := "isaTells", fn := fun _ => fun
  | [d1, d2, d3] => { results := [.lit (.bool false)], args := [d1, d2, d3] }
  | _ => none }
def IsaTellsWrongFalsely : Prop := isaTellsRow.holds Try.pinned (OpenSpec.ofChange isaTellsWrong)

/-- 'forerunnerlaw2.IsaBack': WHATEVER THE INPUT: true; the input reads as it did. -/
def isaBackSpec : ChangeSpec := { name := "isaBack", fn := fun _ => fun
  | [d1, d2] => { results := [.lit (.bool true)], args := [d1, d2] }
  | _ => none }
def isaBackRow : OpenClaim := { program := "ytegalldldcaocaa", sum := "255bfa4490cec2d6dbb44d3ca548b57e34a0174554036ba09380ba5024667708", func := "forerunner/forerunnerlaw2.IsaBack", spec := "isaBack", apart := false }
def IsaBackSaid : Prop := isaBackRow.holds Try.pinned (OpenSpec.ofChange isaBackSpec)

/-- ITS FALSE NEIGHBOUR: 'it returns false'. Refute it at one input. -/
def isaBackWrong : ChangeSpec := { name := "isaBack", fn := fun _ => fun
  | [d1, d2] => { results := [.lit (.bool false)], args := [d1, d2] }
  | _ => none }
def IsaBackWrongFalsely : Prop := isaBackRow.holds Try.pinned (OpenSpec.ofChange isaBackWrong)

/-- 'forerunnerlaw2.IsaWords': WHATEVER THE INPUT: true; the input reads as it did. -/
def isaWordsSpec : ChangeSpec := { name := "isaWords", fn := fun _ => fun
  | [d] => { results := [.lit (.bool true)], args := [d] }
  | _ => none }
def isaWordsRow : OpenClaim := { program := "ytegalldldcaocaa", sum := "255bfa4490cec2d6dbb44d3ca548b57e34a0174554036ba09380ba5024667708", func := "forerunner/forerunnerlaw2.IsaWords", spec := "isaWords", apart := false }
def IsaWordsSaid : Prop := isaWordsRow.holds Try.pinned (OpenSpec.ofChange isaWordsSpec)

/-- ITS FALSE NEIGHBOUR: 'it returns false'. Refute it at one input. -/
def isaWordsWrong : ChangeSpec := { name := "isaWords", fn := fun _ => fun
  | [d] => { results := [.lit (.bool false)], args := [d] }
  | _ => none }
def IsaWordsWrongFalsely : Prop := isaWordsRow.holds Try.pinned (OpenSpec.ofChange isaWordsWrong)

/-- 'forerunnerlaw2.IsaForms': WHATEVER THE INPUT: true; the input reads as it did. -/
def isaFormsSpec : ChangeSpec := { name := "isaForms", fn := fun _ => fun
  | [d1, d2, d3] => { results := [.lit (.bool true)], args := [d1, d2, d3] }
  | _ => none }
def isaFormsRow : OpenClaim := { program := "ytegalldldcaocaa", sum := "255bfa4490cec2d6dbb44d3ca548b57e34a0174554036ba09380ba5024667708", func := "forerunner/forerunnerlaw2.IsaForms", spec := "isaForms", apart := false }
def IsaFormsSaid : Prop := isaFormsRow.holds Try.pinned (OpenSpec.ofChange isaFormsSpec)

/-- ITS FALSE NEIGHBOUR: 'it returns false'. Refute it at one input. -/
def isaFormsWrong : ChangeSpec := { name := "isaForms", fn := fun _ => fun
  | [d1, d2, d3] => { results := [.lit (.bool false)], args := [d1, d2, d3] }
  | _ => none }
def IsaFormsWrongFalsely : Prop := isaFormsRow.holds Try.pinned (OpenSpec.ofChange isaFormsWrong)

/-- 'forerunnerlaw2.IsaBits': WHATEVER THE INPUT: true; the input reads as it did. -/
def isaBitsSpec : ChangeSpec := { name := "isaBits", fn := fun _ => fun
  | [d] => { results := [.lit (.bool true)], args := [d] }
  | _ => none }
def isaBitsRow : OpenClaim := { program := "ytegalldldcaocaa", sum := "255bfa4490cec2d6dbb44d3ca548b57e34a0174554036ba09380ba5024667708", func := "forerunner/forerunnerlaw2.IsaBits", spec := "isaBits", apart := false }
def IsaBitsSaid : Prop := isaBitsRow.holds Try.pinned (OpenSpec.ofChange isaBitsSpec)

/-- ITS FALSE NEIGHBOUR: 'it returns false'. Refute it at one input. -/
def isaBitsWrong : ChangeSpec := { name := "isaBits", fn := fun _ => fun
  | [d] => { results := [.lit (.bool false)], args := [d] }
  | _ => none }
def IsaBitsWrongFalsely : Prop := isaBitsRow.holds Try.pinned (OpenSpec.ofChange isaBitsWrong)

/-- 'forerunnerlaw2.IsaTurned': WHATEVER THE INPUT: true; the input reads as it did. -/
def isaTurnedSpec : ChangeSpec := { name := "isaTurned", fn := fun _ => fun
  | [d1, d2] => { results := [.lit (.bool true)], args := [d1, d2] }
  | _ => none }
def isaTurnedRow : OpenClaim := { program := "ytegalldldcaocaa", sum := "255bfa4490cec2d6dbb44d3ca548b57e34a0174554036ba09380ba5024667708", func := "forerunner/forerunnerlaw2.IsaTurned", spec := "isaTurned", apart := false }
def IsaTurnedSaid : Prop := isaTurnedRow.holds Try.pinned (OpenSpec.ofChange isaTurnedSpec)

/-- ITS FALSE NEIGHBOUR: 'it returns false'. Refute it at one input. -/
def isaTurnedWrong : ChangeSpec := { name := "isaTurned", fn := fun _ => fun
  | [d1, d2] => { results := [.lit (.bool false)], args := [d1, d2] }
  | _ => none }
def IsaTurnedWrongFalsely : Prop := isaTurnedRow.holds Try.pinned (OpenSpec.ofChange isaTurnedWrong)

/-- 'forerunnerlaw2.IsaReads': WHATEVER THE INPUT: true; the input reads as it did. -/
def isaReadsSpec : ChangeSpec := { name := "isaReads", fn := fun _ => fun
  | [d] => { results := [.lit (.bool true)], args := [d] }
  | _ => none }
def isaReadsRow : OpenClaim := { program := "ytegalldldcaocaa", sum := "255bfa4490cec2d6dbb44d3ca548b57e34a0174554036ba09380ba5024667708", func := "forerunner/forerunnerlaw2.IsaReads", spec := "isaReads", apart := false }
def IsaReadsSaid : Prop := isaReadsRow.holds Try.pinned (OpenSpec.ofChange isaReadsSpec)

/-- ITS FALSE NEIGHBOUR: 'it returns false'. Refute it at one input. -/
def isaReadsWrong : ChangeSpec := { name := "isaReads", fn := fun _ => fun
  | [d] => { results := [.lit (.bool false)], args := [d] }
  | _ => none }
def IsaReadsWrongFalsely : Prop := isaReadsRow.holds Try.pinned (OpenSpec.ofChange isaReadsWrong)

/- THE SECOND FORM. 'bulk': how many values and letters a reading holds, each counted each time it is reached (what is shared counts as often as it is met; a slice's spare places count too). A statement '..UptoSaid' is the law's where the arguments, and the package variables that the reading takes, are together of bulk at most 1048576: NARROWER than '..Said'. Prove '..Said' where nothing that the law and all that it calls make is longer than what came in: it says more and counts as full. Else prove '..UptoSaid'. A law counts once. -/
mutual
def uptoBulk {H : Type} : DataW H → Nat
  | .lit (.string bytes) => bytes.length + 1
  | .lit _ => 1
  | .nil => 1
  | .ptr d => uptoBulk d + 1
  | .slice elems spare => uptoBulkAll elems + uptoBulkAll spare + 1
  | .agg parts => uptoBulkAll parts + 1
  | .iface _ d => uptoBulk d + 1
  | .map entries => uptoBulkEntries entries + 1
  | .held _ => 1
def uptoBulkAll {H : Type} : List (DataW H) → Nat
  | [] => 0
  | d :: r => uptoBulk d + uptoBulkAll r
def uptoBulkEntries {H : Type} : List (Lit × DataW H) → Nat
  | [] => 0
  | x :: r => uptoBulkEntry x + uptoBulkEntries r
def uptoBulkEntry {H : Type} : Lit × DataW H → Nat
  | (.string bytes, d) => bytes.length + uptoBulk d + 1
  | (_, d) => uptoBulk d + 1
 end
def uptoSmall : (H : Type) → List (DataW H) → Bool := fun _ ds => decide (uptoBulkAll ds ≤ 1048576)
def OpenSpec.upto (s : _root_.Go.ChangeSpec) : _root_.Go.OpenSpec := { _root_.Go.OpenSpec.ofChange s with cond := some uptoSmall }

/-- 'forerunnerlaw2.IsaTells', WHERE WHAT IT READS IS OF BULK AT MOST 1048576: true; the input reads as it did. -/
def isaTellsUptoRow : OpenClaim := { program := "ytegalldldcaocaa", sum := "255bfa4490cec2d6dbb44d3ca548b57e34a0174554036ba09380ba5024667708", func := "forerunner/forerunnerlaw2.IsaTells", spec := "isaTells", apart := false, narrowed := true }
def IsaTellsUptoSaid : Prop := isaTellsUptoRow.holds Try.pinned (OpenSpec.upto isaTellsSpec)

/-- 'forerunnerlaw2.IsaBack', WHERE WHAT IT READS IS OF BULK AT MOST 1048576: true; the input reads as it did. -/
def isaBackUptoRow : OpenClaim := { program := "ytegalldldcaocaa", sum := "255bfa4490cec2d6dbb44d3ca548b57e34a0174554036ba09380ba5024667708", func := "forerunner/forerunnerlaw2.IsaBack", spec := "isaBack", apart := false, narrowed := true }
def IsaBackUptoSaid : Prop := isaBackUptoRow.holds Try.pinned (OpenSpec.upto isaBackSpec)

/-- 'forerunnerlaw2.IsaWords', WHERE WHAT IT READS IS OF BULK AT MOST 1048576: true; the input reads as it did. -/
def isaWordsUptoRow : OpenClaim := { program := "ytegalldldcaocaa", sum := "255bfa4490cec2d6dbb44d3ca548b57e34a0174554036ba09380ba5024667708", func := "forerunner/forerunnerlaw2.IsaWords", spec := "isaWords", apart := false, narrowed := true }
def IsaWordsUptoSaid : Prop := isaWordsUptoRow.holds Try.pinned (OpenSpec.upto isaWordsSpec)

/-- 'forerunnerlaw2.IsaForms', WHERE WHAT IT READS IS OF BULK AT MOST 1048576: true; the input reads as it did. -/
def isaFormsUptoRow : OpenClaim := { program := "ytegalldldcaocaa", sum := "255bfa4490cec2d6dbb44d3ca548b57e34a0174554036ba09380ba5024667708", func := "forerunner/forerunnerlaw2.IsaForms", spec := "isaForms", apart := false, narrowed := true }
def IsaFormsUptoSaid : Prop := isaFormsUptoRow.holds Try.pinned (OpenSpec.upto isaFormsSpec)

/-- 'forerunnerlaw2.IsaBits', WHERE WHAT IT READS IS OF BULK AT MOST 1048576: true; the input reads as it did. -/
def isaBitsUptoRow : OpenClaim := { program := "ytegalldldcaocaa", sum := "255bfa4490cec2d6dbb44d3ca548b57e34a0174554036ba09380ba5024667708", func := "forerunner/forerunnerlaw2.IsaBits", spec := "isaBits", apart := false, narrowed := true }
def IsaBitsUptoSaid : Prop := isaBitsUptoRow.holds Try.pinned (OpenSpec.upto isaBitsSpec)

/-- 'forerunnerlaw2.IsaTurned', WHERE WHAT IT READS IS OF BULK AT MOST 1048576: true; the input reads as it did. -/
def isaTurnedUptoRow : OpenClaim := { program := "ytegalldldcaocaa", sum := "255bfa4490cec2d6dbb44d3ca548b57e34a0174554036ba09380ba5024667708", func := "forerunner/forerunnerlaw2.IsaTurned", spec := "isaTurned", apart := false, narrowed := true }
def IsaTurnedUptoSaid : Prop := isaTurnedUptoRow.holds Try.pinned (OpenSpec.upto isaTurnedSpec)

/-- 'forerunnerlaw2.IsaReads', WHERE WHAT IT READS IS OF BULK AT MOST 1048576: true; the input reads as it did. -/
def isaReadsUptoRow : OpenClaim := { program := "ytegalldldcaocaa", sum := "255bfa4490cec2d6dbb44d3ca548b57e34a0174554036ba09380ba5024667708", func := "forerunner/forerunnerlaw2.IsaReads", spec := "isaReads", apart := false, narrowed := true }
def IsaReadsUptoSaid : Prop := isaReadsUptoRow.holds Try.pinned (OpenSpec.upto isaReadsSpec)

end Rows
end Go.Proofs.Ytegalldldcaocaa
