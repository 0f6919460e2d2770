/-
  No cell of these rows narrows 'for every input' (looked for: loops, veiled, ifaces, maps, wideKeys, modest, calm, conditions, laid).
  DERIVED. THE GIVEN ROWS OF THIS SEAT. 6 by the template 'for every input the law returns true; each argument reads behind the call as it read before'; 0 by the template 'total and deterministic' (their statements: YtecckfhmgnlmnaaTotals.lean).
  GIVEN WITH THE SEED: the statements are not yours to turn. If you find one false, say at which input.
  Laid BY PROGRAM, IN A SANDBOX (cutbox-rows.mjs): the forced cells as the released guide's own fill.sh prints them over the translation 4b2fbf5d5306d7e5… (all of the seat's roots in one cut). By AI agents, Wed Nov 11 2026. No macro, syntax, notation, axiom, sorry.
-/
import Derived.Test.YtecckfhmgnlmnaaChecked
import GoSem.Claim
import GoSem.ClaimJoined
import GoSem.ClaimMapViews
import Derived.JoinedTies
import Derived.KernelRfl
namespace Go.Proofs.Ytecckfhmgnlmnaa
/- THE CELL 'sum', in the pinned program and in every row, IS THE sha256 OF THE DUMP (.gsa) THAT YtecckfhmgnlmnaaProg.lean LOADS. Nothing in Lean hashes anything: it is a label: what it is worth is what the hold of that sum in a sandbox is worth. -/
noncomputable def Try.pinned : Pinned := { name := "ytecckfhmgnlmnaa", sum := "4b2fbf5d5306d7e533ebba9e1355e1e3f23b06acebc73392b335d8353ed00982", checked := Try.checked }
namespace Rows
def none {H : Type} : Left H := { results := [], args := [] }

/-- 'forerunnerlaw4.ImageTells': WHATEVER THE INPUT: true; the input reads as it did. -/
def imageTellsSpec : ChangeSpec := { name := "imageTells", fn := fun _ => fun
  | [d1, d2] => { results := [.lit (.bool true)], args := [d1, d2] }
  | _ => none }
def imageTellsRow : OpenClaim := { program := "ytecckfhmgnlmnaa", sum := "4b2fbf5d5306d7e533ebba9e1355e1e3f23b06acebc73392b335d8353ed00982", func := "forerunner/forerunnerlaw4.ImageTells", spec := "imageTells", unfollowed := true, recurses := true, apart := false }
def ImageTellsSaid : Prop := imageTellsRow.holds Try.pinned (OpenSpec.ofChange imageTellsSpec)

/-- ITS FALSE NEIGHBOUR: 'it returns false'. Refute it at one input. -/
def imageTellsWrong : ChangeSpec := { name := "imageTells", fn := fun _ => fun
  | [d1, d2] => { results := [.lit (.bool false)], args := [d1, d2] }
  | _ => none }
def ImageTellsWrongFalsely : Prop := imageTellsRow.holds Try.pinned (OpenSpec.ofChange imageTellsWrong)

/-- 'forerunnerlaw4.ImageBack': WHATEVER THE INPUT: true; the input reads as it did. -/
def imageBackSpec : ChangeSpec := { name := "imageBack", fn := fun _ => fun
  | [d1, d2, d3] => { results := [.lit (.bool true)], args := [d1, d2, d3] }
  | _ => none }
def imageBackRow : OpenClaim := { program := "ytecckfhmgnlmnaa", sum := "4b2fbf5d5306d7e533ebba9e1355e1e3f23b06acebc73392b335d8353ed00982", func := "forerunner/forerunnerlaw4.ImageBack", spec := "imageBack", unfollowed := true, recurses := true, apart := false }
def ImageBackSaid : Prop := imageBackRow.holds Try.pinned (OpenSpec.ofChange imageBackSpec)

/-- ITS FALSE NEIGHBOUR: 'it returns false'. Refute it at one input. -/
def imageBackWrong : ChangeSpec := { name := "imageBack", fn := fun _ => fun
  | [d1, d2, d3] => { results := [.lit (.bool false)], args := [d1, d2, d3] }
  | _ => none }
def ImageBackWrongFalsely : Prop := imageBackRow.holds Try.pinned (OpenSpec.ofChange imageBackWrong)

/-- 'forerunnerlaw4.ImageTargets': WHATEVER THE INPUT: true; the input reads as it did. -/
def imageTargetsSpec : ChangeSpec := { name := "imageTargets", fn := fun _ => fun
  | [d1, d2, d3, d4] => { results := [.lit (.bool true)], args := [d1, d2, d3, d4] }
  | _ => none }
def imageTargetsRow : OpenClaim := { program := "ytecckfhmgnlmnaa", sum := "4b2fbf5d5306d7e533ebba9e1355e1e3f23b06acebc73392b335d8353ed00982", func := "forerunner/forerunnerlaw4.ImageTargets", spec := "imageTargets", unfollowed := true, recurses := true, apart := false }
def ImageTargetsSaid : Prop := imageTargetsRow.holds Try.pinned (OpenSpec.ofChange imageTargetsSpec)

/-- ITS FALSE NEIGHBOUR: 'it returns false'. Refute it at one input. -/
def imageTargetsWrong : ChangeSpec := { name := "imageTargets", fn := fun _ => fun
  | [d1, d2, d3, d4] => { results := [.lit (.bool false)], args := [d1, d2, d3, d4] }
  | _ => none }
def ImageTargetsWrongFalsely : Prop := imageTargetsRow.holds Try.pinned (OpenSpec.ofChange imageTargetsWrong)

/-- 'forerunnerlaw4.ImageWrong': WHATEVER THE INPUT: true; the input reads as it did. -/
def imageWrongSpec : ChangeSpec := { name := "imageWrong", fn := fun _ => fun
  | [d] => { results := [.lit (.bool true)], args := [d] }
  | _ => none }
def imageWrongRow : OpenClaim := { program := "ytecckfhmgnlmnaa", sum := "4b2fbf5d5306d7e533ebba9e1355e1e3f23b06acebc73392b335d8353ed00982", func := "forerunner/forerunnerlaw4.ImageWrong", spec := "imageWrong", unfollowed := true, recurses := true, apart := false }
def ImageWrongSaid : Prop := imageWrongRow.holds Try.pinned (OpenSpec.ofChange imageWrongSpec)

/-- ITS FALSE NEIGHBOUR: 'it returns false'. Refute it at one input. -/
def imageWrongWrong : ChangeSpec := { name := "imageWrong", fn := fun _ => fun
  | [d] => { results := [.lit (.bool false)], args := [d] }
  | _ => none }
def ImageWrongWrongFalsely : Prop := imageWrongRow.holds Try.pinned (OpenSpec.ofChange imageWrongWrong)

/-- 'forerunnerlaw4.ImageTurned': WHATEVER THE INPUT: true; the input reads as it did. -/
def imageTurnedSpec : ChangeSpec := { name := "imageTurned", fn := fun _ => fun
  | [d1, d2] => { results := [.lit (.bool true)], args := [d1, d2] }
  | _ => none }
def imageTurnedRow : OpenClaim := { program := "ytecckfhmgnlmnaa", sum := "4b2fbf5d5306d7e533ebba9e1355e1e3f23b06acebc73392b335d8353ed00982", func := "forerunner/forerunnerlaw4.ImageTurned", spec := "imageTurned", unfollowed := true, recurses := true, apart := false }
def ImageTurnedSaid : Prop := imageTurnedRow.holds Try.pinned (OpenSpec.ofChange imageTurnedSpec)

/-- ITS FALSE NEIGHBOUR: 'it returns false'. Refute it at one input. -/
def imageTurnedWrong : ChangeSpec := { name := "imageTurned", fn := fun _ => fun
  | [d1, d2] => { results := [.lit (.bool false)], args := [d1, d2] }
  | _ => none }
def ImageTurnedWrongFalsely : Prop := imageTurnedRow.holds Try.pinned (OpenSpec.ofChange imageTurnedWrong)

/-- 'forerunnerlaw4.ImageApart': WHATEVER THE INPUT: true; the input reads as it did. -/
def imageApartSpec : ChangeSpec := { name := "imageApart", fn := fun _ => fun
  | [d1, d2] => { results := [.lit (.bool true)], args := [d1, d2] }
  | _ => none }
def imageApartRow : OpenClaim := { program := "ytecckfhmgnlmnaa", sum := "4b2fbf5d5306d7e533ebba9e1355e1e3f23b06acebc73392b335d8353ed00982", func := "forerunner/forerunnerlaw4.ImageApart", spec := "imageApart", unfollowed := true, recurses := true, apart := false }
def ImageApartSaid : Prop := imageApartRow.holds Try.pinned (OpenSpec.ofChange imageApartSpec)

/-- ITS FALSE NEIGHBOUR: 'it returns false'. Refute it at one input. -/
def imageApartWrong : ChangeSpec := { name := "imageApart", fn := fun _ => fun
  | [d1, d2] => { results := [.lit (.bool false)], args := [d1, d2] }
  | _ => none }
def ImageApartWrongFalsely : Prop := imageApartRow.holds Try.pinned (OpenSpec.ofChange imageApartWrong)

/- THE SECOND FORM. 'bulk': how many values and letters a reading holds, each counted each time it is reached (what is shared counts as often as it is met; a slice's spare places count too). A statement '..UptoSaid' is the law's where the arguments, and the package variables that the reading takes, are together of bulk at most 1048576: NARROWER than '..Said'. Prove '..Said' where nothing that the law and all that it calls make is longer than what came in: it says more and counts as full. Else prove '..UptoSaid'. A law counts once. -/
mutual
def uptoBulk {H : Type} : DataW H → Nat
  | .lit (.string bytes) => bytes.length + 1
  | .lit _ => 1
  | .nil => 1
  | .ptr d => uptoBulk d + 1
  | .slice elems spare => uptoBulkAll elems + uptoBulkAll spare + 1
  | .agg parts => uptoBulkAll parts + 1
  | .iface _ d => uptoBulk d + 1
  | .map entries => uptoBulkEntries entries + 1
  | .held _ => 1
def uptoBulkAll {H : Type} : List (DataW H) → Nat
  | [] => 0
  | d :: r => uptoBulk d + uptoBulkAll r
def uptoBulkEntries {H : Type} : List (Lit × DataW H) → Nat
  | [] => 0
  | x :: r => uptoBulkEntry x + uptoBulkEntries r
def uptoBulkEntry {H : Type} : Lit × DataW H → Nat
  | (.string bytes, d) => bytes.length + uptoBulk d + 1
  | (_, d) => uptoBulk d + 1
 end
def uptoSmall : (H : Type) → List (DataW H) → Bool := fun _ ds => decide (uptoBulkAll ds ≤ 1048576)
def OpenSpec.upto (s : _root_.Go.ChangeSpec) : _root_.Go.OpenSpec := { _root_.Go.OpenSpec.ofChange s with cond := some uptoSmall }

/-- 'forerunnerlaw4.ImageTells', WHERE WHAT IT READS IS OF BULK AT MOST 1048576: true; the input reads as it did. -/
def imageTellsUptoRow : OpenClaim := { program := "ytecckfhmgnlmnaa", sum := "4b2fbf5d5306d7e533ebba9e1355e1e3f23b06acebc73392b335d8353ed00982", func := "forerunner/forerunnerlaw4.ImageTells", spec := "imageTells", unfollowed := true, recurses := true, apart := false, narrowed := true }
def ImageTellsUptoSaid : Prop := imageTellsUptoRow.holds Try.pinned (OpenSpec.upto imageTellsSpec)

/-- 'forerunnerlaw4.ImageBack', WHERE WHAT IT READS IS OF BULK AT MOST 1048576: true; the input reads as it did. -/
def imageBackUptoRow : OpenClaim := { program := "ytecckfhmgnlmnaa", sum := "4b2fbf5d5306d7e533ebba9e1355e1e3f23b06acebc73392b335d8353ed00982", func := "forerunner/forerunnerlaw4.ImageBack", spec := "imageBack", unfollowed := true, recurses := true, apart := false, narrowed := true }
def ImageBackUptoSaid : Prop := imageBackUptoRow.holds Try.pinned (OpenSpec.upto imageBackSpec)

/-- 'forerunnerlaw4.ImageTargets', WHERE WHAT IT READS IS OF BULK AT MOST 1048576: true; the input reads as it did. -/
def imageTargetsUptoRow : OpenClaim := { program := "ytecckfhmgnlmnaa", sum := "4b2fbf5d5306d7e533ebba9e1355e1e3f23b06acebc73392b335d8353ed00982", func := "forerunner/forerunnerlaw4.ImageTargets", spec := "imageTargets", unfollowed := true, recurses := true, apart := false, narrowed := true }
def ImageTargetsUptoSaid : Prop := imageTargetsUptoRow.holds Try.pinned (OpenSpec.upto imageTargetsSpec)

/-- 'forerunnerlaw4.ImageWrong', WHERE WHAT IT READS IS OF BULK AT MOST 1048576: true; the input reads as it did. -/
def imageWrongUptoRow : OpenClaim := { program := "ytecckfhmgnlmnaa", sum := "4b2fbf5d5306d7e533ebba9e1355e1e3f23b06acebc73392b335d8353ed00982", func := "forerunner/forerunnerlaw4.ImageWrong", spec := "imageWrong", unfollowed := true, recurses := true, apart := false, narrowed := true }
def ImageWrongUptoSaid : Prop := imageWrongUptoRow.holds Try.pinned (OpenSpec.upto imageWrongSpec)

/-- 'forerunnerlaw4.ImageTurned', WHERE WHAT IT READS IS OF BULK AT MOST 1048576: true; the input reads as it did. -/
def imageTurnedUptoRow : OpenClaim := { program := "ytecckfhmgnlmnaa", sum := "4b2fbf5d5306d7e533ebba9e1355e1e3f23b06acebc73392b335d8353ed00982", func := "forerunner/forerunnerlaw4.ImageTurned", spec := "imageTurned", unfollowed := true, recurses := true, apart := false, narrowed := true }
def ImageTurnedUptoSaid : Prop := imageTurnedUptoRow.holds Try.pinned (OpenSpec.upto imageTurnedSpec)

/-- 'forerunnerlaw4.ImageApart', WHERE WHAT IT READS IS OF BULK AT MOST 1048576: true; the input reads as it did. -/
def imageApartUptoRow : OpenClaim := { program := "ytecckfhmgnlmnaa", sum := "4b2fbf5d5306d7e533ebba9e1355e1e3f23b06acebc73392b335d8353ed00982", func := "forerunner/forerunnerlaw4.ImageApart", spec := "imageApart", unfollowed := true, recurses := true, apart := false, narrowed := true }
def ImageApartUptoSaid : Prop := imageApartUptoRow.holds Try.pinned (OpenSpec.upto imageApartSpec)

end Rows
end Go.Proofs.Ytecckfhmgnlmnaa
