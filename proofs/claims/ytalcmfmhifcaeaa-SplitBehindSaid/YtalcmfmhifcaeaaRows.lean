/-
  No cell of these rows narrows 'for every input' (looked for: loops, veiled, ifaces, maps, wideKeys, modest, calm, conditions, laid).
  DERIVED. THE GIVEN ROWS OF THIS SEAT. 3 by the template 'for every input the law returns true; each argument reads behind the call as it read before'; 0 by the template 'total and deterministic' (their statements: YtalcmfmhifcaeaaTotals.lean).
  GIVEN WITH THE SEED: the statements are not yours to turn. If you find one false, say at which input.
  Laid BY PROGRAM, IN A SANDBOX (cutbox-rows.mjs): the forced cells as the released guide's own fill.sh prints them over the translation f00e626ffd320076… (all of the seat's roots in one cut). By AI agents, Wed Nov 11 2026. No macro, syntax, notation, axiom, sorry.
-/
import Derived.Test.YtalcmfmhifcaeaaChecked
import GoSem.Claim
import GoSem.ClaimJoined
import GoSem.ClaimMapViews
import Derived.JoinedTies
import Derived.KernelRfl
namespace Go.Proofs.Ytalcmfmhifcaeaa
/- THE CELL 'sum', in the pinned program and in every row, IS THE sha256 OF THE DUMP (.gsa) THAT YtalcmfmhifcaeaaProg.lean LOADS. Nothing in Lean hashes anything: it is a label: what it is worth is what the hold of that sum in a sandbox is worth. -/
noncomputable def Try.pinned : Pinned := { name := "ytalcmfmhifcaeaa", sum := "f00e626ffd320076d7cc9eb22e5d113331d531176d3c519131e81cc5c3919b1e", checked := Try.checked }
namespace Rows
def none {H : Type} : Left H := { results := [], args := [] }

/-- 'forerunnerlaw13.SplitAll': WHATEVER THE INPUT: true; the input reads as it did. -/
def splitAllSpec : ChangeSpec := { name := "splitAll", fn := fun _ => fun
  | [d1, d2] => { results := [.lit (.bool true)], args := [d1, d2] }
  | _ => none }
def splitAllRow : OpenClaim := { program := "ytalcmfmhifcaeaa", sum := "f00e626ffd320076d7cc9eb22e5d113331d531176d3c519131e81cc5c3919b1e", func := "forerunner/forerunnerlaw13.SplitAll", spec := "splitAll", unfollowed := true, recurses := true, apart := false }
def SplitAllSaid : Prop := splitAllRow.holds Try.pinned (OpenSpec.ofChange splitAllSpec)

/-- ITS FALSE NEIGHBOUR: 'it returns false'. Refute it at one input. -/
def splitAllWrong : ChangeSpec := { name := "splitAll", fn := fun _ => fun
  | [d1, d2] => { results := [.lit (.bool false)], args := [d1, d2] }
  | _ => none }
def SplitAllWrongFalsely : Prop := splitAllRow.holds Try.pinned (OpenSpec.ofChange splitAllWrong)

/-- 'forerunnerlaw13.SplitEach': WHATEVER THE INPUT: true; the input reads as it did. -/
def splitEachSpec : ChangeSpec := { name := "splitEach", fn := fun _ => fun
  | [d] => { results := [.lit (.bool true)], args := [d] }
  | _ => none }
def splitEachRow : OpenClaim := { program := "ytalcmfmhifcaeaa", sum := "f00e626ffd320076d7cc9eb22e5d113331d531176d3c519131e81cc5c3919b1e", func := "forerunner/forerunnerlaw13.SplitEach", spec := "splitEach", unfollowed := true, recurses := true, apart := false }
def SplitEachSaid : Prop := splitEachRow.holds Try.pinned (OpenSpec.ofChange splitEachSpec)

/-- ITS FALSE NEIGHBOUR: 'it returns false'. Refute it at one input. -/
def splitEachWrong : ChangeSpec := { name := "splitEach", fn := fun _ => fun
  | [d] => { results := [.lit (.bool false)], args := [d] }
  | _ => none }
def SplitEachWrongFalsely : Prop := splitEachRow.holds Try.pinned (OpenSpec.ofChange splitEachWrong)

/-- 'forerunnerlaw13.SplitBehind': WHATEVER THE INPUT: true; the input reads as it did. -/
def splitBehindSpec : ChangeSpec := { name := "splitBehind", fn := fun _ => fun
  | [d1, d2, d3] => { results := [.lit (.bool true)], args := [d1, d2, d3] }
  | _ => none }
def splitBehindRow : OpenClaim := { program := "ytalcmfmhifcaeaa", sum := "f00e626ffd320076d7cc9eb22e5d113331d531176d3c519131e81cc5c3919b1e", func := "forerunner/forerunnerlaw13.SplitBehind", spec := "splitBehind", unfollowed := true, recurses := true, apart := false }
def SplitBehindSaid : Prop := splitBehindRow.holds Try.pinned (OpenSpec.ofChange splitBehindSpec)

/-- ITS FALSE NEIGHBOUR: 'it returns false'. Refute it at one input. -/
def splitBehindWrong : ChangeSpec := { name := "splitBehind", fn := fun _ => fun
  | [d1, d2, d3] => { results := [.lit (.bool false)], args := [d1, d2, d3] }
  | _ => none }
def SplitBehindWrongFalsely : Prop := splitBehindRow.holds Try.pinned (OpenSpec.ofChange splitBehindWrong)

/- THE SECOND FORM. 'bulk': how many values and letters a reading holds, each counted each time it is reached (what is shared counts as often as it is met; a slice's spare places count too). A statement '..UptoSaid' is the law's where the arguments, and the package variables that the reading takes, are together of bulk at most 1048576: NARROWER than '..Said'. Prove '..Said' where nothing that the law and all that it calls make is longer than what came in: it says more and counts as full. Else prove '..UptoSaid'. A law counts once. -/
mutual
def uptoBulk {H : Type} : DataW H → Nat
  | .lit (.string bytes) => bytes.length + 1
  | .lit _ => 1
  | .nil => 1
  | .ptr d => uptoBulk d + 1
  | .slice elems spare => uptoBulkAll elems + uptoBulkAll spare + 1
  | .agg parts => uptoBulkAll parts + 1
  | .iface _ d => uptoBulk d + 1
  | .map entries => uptoBulkEntries entries + 1
  | .held _ => 1
def uptoBulkAll {H : Type} : List (DataW H) → Nat
  | [] => 0
  | d :: r => uptoBulk d + uptoBulkAll r
def uptoBulkEntries {H : Type} : List (Lit × DataW H) → Nat
  | [] => 0
  | x :: r => uptoBulkEntry x + uptoBulkEntries r
def uptoBulkEntry {H : Type} : Lit × DataW H → Nat
  | (.string bytes, d) => bytes.length + uptoBulk d + 1
  | (_, d) => uptoBulk d + 1
 end
def uptoSmall : (H : Type) → List (DataW H) → Bool := fun _ ds => decide (uptoBulkAll ds ≤ 1048576)
def OpenSpec.upto (s : _root_.Go.ChangeSpec) : _root_.Go.OpenSpec := { _root_.Go.OpenSpec.ofChange s with cond := some uptoSmall }

/-- 'forerunnerlaw13.SplitAll', WHERE WHAT IT READS IS OF BULK AT MOST 1048576: true; the input reads as it did. -/
def splitAllUptoRow : OpenClaim := { program := "ytalcmfmhifcaeaa", sum := "f00e626ffd320076d7cc9eb22e5d113331d531176d3c519131e81cc5c3919b1e", func := "forerunner/forerunnerlaw13.SplitAll", spec := "splitAll", unfollowed := true, recurses := true, apart := false, narrowed := true }
def SplitAllUptoSaid : Prop := splitAllUptoRow.holds Try.pinned (OpenSpec.upto splitAllSpec)

/-- 'forerunnerlaw13.SplitEach', WHERE WHAT IT READS IS OF BULK AT MOST 1048576: true; the input reads as it did. -/
def splitEachUptoRow : OpenClaim := { program := "ytalcmfmhifcaeaa", sum := "f00e626ffd320076d7cc9eb22e5d113331d531176d3c519131e81cc5c3919b1e", func := "forerunner/forerunnerlaw13.SplitEach", spec := "splitEach", unfollowed := true, recurses := true, apart := false, narrowed := true }
def SplitEachUptoSaid : Prop := splitEachUptoRow.holds Try.pinned (OpenSpec.upto splitEachSpec)

/-- 'forerunnerlaw13.SplitBehind', WHERE WHAT IT READS IS OF BULK AT MOST 1048576: true; the input reads as it did. -/
def splitBehindUptoRow : OpenClaim := { program := "ytalcmfmhifcaeaa", sum := "f00e626ffd320076d7cc9eb22e5d113331d531176d3c519131e81cc5c3919b1e", func := "forerunner/forerunnerlaw13.SplitBehind", spec := "splitBehind", unfollowed := true, recurses := true, apart := false, narrowed := true }
def SplitBehindUptoSaid : Prop := splitBehindUptoRow.holds Try.pinned (OpenSpec.upto splitBehindSpec)

end Rows
end Go.Proofs.Ytalcmfmhifcaeaa
