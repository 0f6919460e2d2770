/-
  No cell of these rows narrows 'for every input' (looked for: loops, veiled, ifaces, maps, wideKeys, modest, calm, conditions, laid).
  DERIVED. THE GIVEN ROWS OF THIS SEAT. 4 by the template 'for every input the law returns true; each argument reads behind the call as it read before'; 0 by the template 'total and deterministic' (their statements: YtbmgaebhcomjaaaTotals.lean).
  GIVEN WITH THE SEED: the statements are not yours to turn. If you find one false, say at which input.
  Laid BY PROGRAM, IN A SANDBOX (cutbox-rows.mjs): the forced cells as the released guide's own fill.sh prints them over the translation a0d510ababc7d78a… (all of the seat's roots in one cut). By AI agents, Wed Nov 11 2026. No macro, syntax, notation, axiom, sorry.
-/
import Derived.Test.YtbmgaebhcomjaaaChecked
import GoSem.Claim
import GoSem.ClaimJoined
import GoSem.ClaimMapViews
import Derived.JoinedTies
import Derived.KernelRfl
namespace Go.Proofs.Ytbmgaebhcomjaaa
/- THE CELL 'sum', in the pinned program and in every row, IS THE sha256 OF THE DUMP (.gsa) THAT YtbmgaebhcomjaaaProg.lean LOADS. Nothing in Lean hashes anything: it is a label: what it is worth is what the hold of that sum in a sandbox is worth. -/
noncomputable def Try.pinned : Pinned := { name := "ytbmgaebhcomjaaa", sum := "a0d510ababc7d78a280bc21d0dea49391f11baad43d644f41a9a2d3d905207f0", checked := Try.checked }
namespace Rows
def none {H : Type} : Left H := { results := [], args := [] }

/-- 'forerunnerlaw10.BlocksTell': WHATEVER THE INPUT: true; the input reads as it did. -/
def blocksTellSpec : ChangeSpec := { name := "blocksTell", fn := fun _ => fun
  | [d] => { results := [.lit (.bool true)], args := [d] }
  | _ => none }
def blocksTellRow : OpenClaim := { program := "ytbmgaebhcomjaaa", sum := "a0d510ababc7d78a280bc21d0dea49391f11baad43d644f41a9a2d3d905207f0", func := "forerunner/forerunnerlaw10.BlocksTell", spec := "blocksTell", unfollowed := true, recurses := true, apart := false }
def BlocksTellSaid : Prop := blocksTellRow.holds Try.pinned (OpenSpec.ofChange blocksTellSpec)

/-- ITS FALSE NEIGHBOUR: 'it returns false'. Refute it at one input. -/
def blocksTellWrong : ChangeSpec := { name := "blocksTell", fn := fun _ => fun
  | [d] => { results := [.lit (.bool false)], args := [d] }
  | _ => none }
def BlocksTellWrongFalsely : Prop := blocksTellRow.holds Try.pinned (OpenSpec.ofChange blocksTellWrong)

/-- 'forerunnerlaw10.BlocksCover': WHATEVER THE INPUT: true; the input reads as it did. -/
def blocksCoverSpec : ChangeSpec := { name := "blocksCover", fn := fun _ => fun
  | [d] => { results := [.lit (.bool true)], args := [d] }
  | _ => none }
def blocksCoverRow : OpenClaim := { program := "ytbmgaebhcomjaaa", sum := "a0d510ababc7d78a280bc21d0dea49391f11baad43d644f41a9a2d3d905207f0", func := "forerunner/forerunnerlaw10.BlocksCover", spec := "blocksCover", unfollowed := true, recurses := true, apart := false }
def BlocksCoverSaid : Prop := blocksCoverRow.holds Try.pinned (OpenSpec.ofChange blocksCoverSpec)

/-- ITS FALSE NEIGHBOUR: 'it returns false'. Refute it at one input. -/
def blocksCoverWrong : ChangeSpec := { name := "blocksCover", fn := fun _ => fun
  | [d] => { results := [.lit (.bool false)], args := [d] }
  | _ => none }
def BlocksCoverWrongFalsely : Prop := blocksCoverRow.holds Try.pinned (OpenSpec.ofChange blocksCoverWrong)

/-- 'forerunnerlaw10.BlocksStraight': WHATEVER THE INPUT: true; the input reads as it did. -/
def blocksStraightSpec : ChangeSpec := { name := "blocksStraight", fn := fun _ => fun
  | [d1, d2] => { results := [.lit (.bool true)], args := [d1, d2] }
  | _ => none }
def blocksStraightRow : OpenClaim := { program := "ytbmgaebhcomjaaa", sum := "a0d510ababc7d78a280bc21d0dea49391f11baad43d644f41a9a2d3d905207f0", func := "forerunner/forerunnerlaw10.BlocksStraight", spec := "blocksStraight", unfollowed := true, recurses := true, apart := false }
def BlocksStraightSaid : Prop := blocksStraightRow.holds Try.pinned (OpenSpec.ofChange blocksStraightSpec)

/-- ITS FALSE NEIGHBOUR: 'it returns false'. Refute it at one input. -/
def blocksStraightWrong : ChangeSpec := { name := "blocksStraight", fn := fun _ => fun
  | [d1, d2] => { results := [.lit (.bool false)], args := [d1, d2] }
  | _ => none }
def BlocksStraightWrongFalsely : Prop := blocksStraightRow.holds Try.pinned (OpenSpec.ofChange blocksStraightWrong)

/-- 'forerunnerlaw10.BlocksMore': WHATEVER THE INPUT: true; the input reads as it did. -/
def blocksMoreSpec : ChangeSpec := { name := "blocksMore", fn := fun _ => fun
  | [d1, d2] => { results := [.lit (.bool true)], args := [d1, d2] }
  | _ => none }
def blocksMoreRow : OpenClaim := { program := "ytbmgaebhcomjaaa", sum := "a0d510ababc7d78a280bc21d0dea49391f11baad43d644f41a9a2d3d905207f0", func := "forerunner/forerunnerlaw10.BlocksMore", spec := "blocksMore", unfollowed := true, recurses := true, apart := false }
def BlocksMoreSaid : Prop := blocksMoreRow.holds Try.pinned (OpenSpec.ofChange blocksMoreSpec)

/-- ITS FALSE NEIGHBOUR: 'it returns false'. Refute it at one input. -/
def blocksMoreWrong : ChangeSpec := { name := "blocksMore", fn := fun _ => fun
  | [d1, d2] => { results := [.lit (.bool false)], args := [d1, d2] }
  | _ => none }
def BlocksMoreWrongFalsely : Prop := blocksMoreRow.holds Try.pinned (OpenSpec.ofChange blocksMoreWrong)

/- THE SECOND FORM. 'bulk': how many values and letters a reading holds, each counted each time it is reached (what is shared counts as often as it is met; a slice's spare places count too). A statement '..UptoSaid' is the law's where the arguments, and the package variables that the reading takes, are together of bulk at most 1048576: NARROWER than '..Said'. Prove '..Said' where nothing that the law and all that it calls make is longer than what came in: it says more and counts as full. Else prove '..UptoSaid'. A law counts once. -/
mutual
def uptoBulk {H : Type} : DataW H → Nat
  | .lit (.string bytes) => bytes.length + 1
  | .lit _ => 1
  | .nil => 1
  | .ptr d => uptoBulk d + 1
  | .slice elems spare => uptoBulkAll elems + uptoBulkAll spare + 1
  | .agg parts => uptoBulkAll parts + 1
  | .iface _ d => uptoBulk d + 1
  | .map entries => uptoBulkEntries entries + 1
  | .held _ => 1
def uptoBulkAll {H : Type} : List (DataW H) → Nat
  | [] => 0
  | d :: r => uptoBulk d + uptoBulkAll r
def uptoBulkEntries {H : Type} : List (Lit × DataW H) → Nat
  | [] => 0
  | x :: r => uptoBulkEntry x + uptoBulkEntries r
def uptoBulkEntry {H : Type} : Lit × DataW H → Nat
  | (.string bytes, d) => bytes.length + uptoBulk d + 1
  | (_, d) => uptoBulk d + 1
 end
def uptoSmall : (H : Type) → List (DataW H) → Bool := fun _ ds => decide (uptoBulkAll ds ≤ 1048576)
def OpenSpec.upto (s : _root_.Go.ChangeSpec) : _root_.Go.OpenSpec := { _root_.Go.OpenSpec.ofChange s with cond := some uptoSmall }

/-- 'forerunnerlaw10.BlocksTell', WHERE WHAT IT READS IS OF BULK AT MOST 1048576: true; the input reads as it did. -/
def blocksTellUptoRow : OpenClaim := { program := "ytbmgaebhcomjaaa", sum := "a0d510ababc7d78a280bc21d0dea49391f11baad43d644f41a9a2d3d905207f0", func := "forerunner/forerunnerlaw10.BlocksTell", spec := "blocksTell", unfollowed := true, recurses := true, apart := false, narrowed := true }
def BlocksTellUptoSaid : Prop := blocksTellUptoRow.holds Try.pinned (OpenSpec.upto blocksTellSpec)

/-- 'forerunnerlaw10.BlocksCover', WHERE WHAT IT READS IS OF BULK AT MOST 1048576: true; the input reads as it did. -/
def blocksCoverUptoRow : OpenClaim := { program := "ytbmgaebhcomjaaa", sum := "a0d510ababc7d78a280bc21d0dea49391f11baad43d644f41a9a2d3d905207f0", func := "forerunner/forerunnerlaw10.BlocksCover", spec := "blocksCover", unfollowed := true, recurses := true, apart := false, narrowed := true }
def BlocksCoverUptoSaid : Prop := blocksCoverUptoRow.holds Try.pinned (OpenSpec.upto blocksCoverSpec)

/-- 'forerunnerlaw10.BlocksStraight', WHERE WHAT IT READS IS OF BULK AT MOST 1048576: true; the input reads as it did. -/
def blocksStraightUptoRow : OpenClaim := { program := "ytbmgaebhcomjaaa", sum := "a0d510ababc7d78a280bc21d0dea49391f11baad43d644f41a9a2d3d905207f0", func := "forerunner/forerunnerlaw10.BlocksStraight", spec := "blocksStraight", unfollowed := true, recurses := true, apart := false, narrowed := true }
def BlocksStraightUptoSaid : Prop := blocksStraightUptoRow.holds Try.pinned (OpenSpec.upto blocksStraightSpec)

/-- 'forerunnerlaw10.BlocksMore', WHERE WHAT IT READS IS OF BULK AT MOST 1048576: true; the input reads as it did. -/
def blocksMoreUptoRow : OpenClaim := { program := "ytbmgaebhcomjaaa", sum := "a0d510ababc7d78a280bc21d0dea49391f11baad43d644f41a9a2d3d905207f0", func := "forerunner/forerunnerlaw10.BlocksMore", spec := "blocksMore", unfollowed := true, recurses := true, apart := false, narrowed := true }
def BlocksMoreUptoSaid : Prop := blocksMoreUptoRow.holds Try.pinned (OpenSpec.upto blocksMoreSpec)

end Rows
end Go.Proofs.Ytbmgaebhcomjaaa
