/-
  No cell of these rows narrows 'for every input' (looked for: loops, veiled, ifaces, maps, wideKeys, modest, calm, conditions, laid).
  DERIVED. THE GIVEN ROWS OF THIS SEAT. 9 by the template 'for every input the law returns true; each argument reads behind the call as it read before'; 0 by the template 'total and deterministic' (their statements: YtnhpkdkffpagdaaTotals.lean).
  GIVEN WITH THE SEED: the statements are not yours to turn. If you find one false, say at which input.
  Laid BY PROGRAM, IN A SANDBOX (cutbox-rows.mjs): the forced cells as the released guide's own fill.sh prints them over the translation f2663b3a2fcf489a… (all of the seat's roots in one cut). By AI agents, Wed Nov 11 2026. No macro, syntax, notation, axiom, sorry.
-/
import Derived.Test.YtnhpkdkffpagdaaChecked
import GoSem.Claim
import GoSem.ClaimJoined
import GoSem.ClaimMapViews
import Derived.JoinedTies
import Derived.KernelRfl
namespace Go.Proofs.Ytnhpkdkffpagdaa
/- THE CELL 'sum', in the pinned program and in every row, IS THE sha256 OF THE DUMP (.gsa) THAT YtnhpkdkffpagdaaProg.lean LOADS. Nothing in Lean hashes anything: it is a label: what it is worth is what the hold of that sum in a sandbox is worth. -/
noncomputable def Try.pinned : Pinned := { name := "ytnhpkdkffpagdaa", sum := "f2663b3a2fcf489a1177235bb04baeade6ef5436dd473873f799fd44c8fc0df0", checked := Try.checked }
namespace Rows
def none {H : Type} : Left H := { results := [], args := [] }

/-- 'forerunnerlaw11.OwnerTells': WHATEVER THE INPUT: true; the input reads as it did. -/
def ownerTellsSpec : ChangeSpec := { name := "ownerTells", fn := fun _ => fun
  | [d1, d2, d3] => { results := [.lit (.bool true)], args := [d1, d2, d3] }
  | _ => none }
def ownerTellsRow : OpenClaim := { program := "ytnhpkdkffpagdaa", sum := "f2663b3a2fcf489a1177235bb04baeade6ef5436dd473873f799fd44c8fc0df0", func := "forerunner/forerunnerlaw11.OwnerTells", spec := "ownerTells", unfollowed := true, recurses := true, apart := false }
def OwnerTellsSaid : Prop := ownerTellsRow.holds Try.pinned (OpenSpec.ofChange ownerTellsSpec)

/-- ITS FALSE NEIGHBOUR: 'it returns false'. Refute it at one input. -/
def ownerTellsWrong : ChangeSpec := { name := "ownerTells", fn := fun _ => fun
  | [d1, d2, d3] => { results := [.lit (.bool false)], args := [d1, d2, d3] }
  | _ => none }
def OwnerTellsWrongFalsely : Prop := ownerTellsRow.holds Try.pinned (OpenSpec.ofChange ownerTellsWrong)

/-- 'forerunnerlaw11.OwnerLeast': WHATEVER THE INPUT: true; the input reads as it did. -/
def ownerLeastSpec : ChangeSpec := { name := "ownerLeast", fn := fun _ => fun
  | [d1, d2] => { results := [.lit (.bool true)], args := [d1, d2] }
  | _ => none }
def ownerLeastRow : OpenClaim := { program := "ytnhpkdkffpagdaa", sum := "f2663b3a2fcf489a1177235bb04baeade6ef5436dd473873f799fd44c8fc0df0", func := "forerunner/forerunnerlaw11.OwnerLeast", spec := "ownerLeast", unfollowed := true, recurses := true, apart := false }
def OwnerLeastSaid : Prop := ownerLeastRow.holds Try.pinned (OpenSpec.ofChange ownerLeastSpec)

/-- ITS FALSE NEIGHBOUR: 'it returns false'. Refute it at one input. -/
def ownerLeastWrong : ChangeSpec := { name := "ownerLeast", fn := fun _ => fun
  | [d1, d2] => { results := [.lit (.bool false)], args := [d1, d2] }
  | _ => none }
def OwnerLeastWrongFalsely : Prop := ownerLeastRow.holds Try.pinned (OpenSpec.ofChange ownerLeastWrong)

/-- 'forerunnerlaw11.OwnerJoins': WHATEVER THE INPUT: true; the input reads as it did. -/
def ownerJoinsSpec : ChangeSpec := { name := "ownerJoins", fn := fun _ => fun
  | [d1, d2, d3] => { results := [.lit (.bool true)], args := [d1, d2, d3] }
  | _ => none }
def ownerJoinsRow : OpenClaim := { program := "ytnhpkdkffpagdaa", sum := "f2663b3a2fcf489a1177235bb04baeade6ef5436dd473873f799fd44c8fc0df0", func := "forerunner/forerunnerlaw11.OwnerJoins", spec := "ownerJoins", unfollowed := true, recurses := true, apart := false }
def OwnerJoinsSaid : Prop := ownerJoinsRow.holds Try.pinned (OpenSpec.ofChange ownerJoinsSpec)

/-- ITS FALSE NEIGHBOUR: 'it returns false'. Refute it at one input. -/
def ownerJoinsWrong : ChangeSpec := { name := "ownerJoins", fn := fun _ => fun
  | [d1, d2, d3] => { results := [.lit (.bool false)], args := [d1, d2, d3] }
  | _ => none }
def OwnerJoinsWrongFalsely : Prop := ownerJoinsRow.holds Try.pinned (OpenSpec.ofChange ownerJoinsWrong)

/-- 'forerunnerlaw11.OwnerChain': WHATEVER THE INPUT: true; the input reads as it did. -/
def ownerChainSpec : ChangeSpec := { name := "ownerChain", fn := fun _ => fun
  | [d1, d2] => { results := [.lit (.bool true)], args := [d1, d2] }
  | _ => none }
def ownerChainRow : OpenClaim := { program := "ytnhpkdkffpagdaa", sum := "f2663b3a2fcf489a1177235bb04baeade6ef5436dd473873f799fd44c8fc0df0", func := "forerunner/forerunnerlaw11.OwnerChain", spec := "ownerChain", unfollowed := true, recurses := true, apart := false }
def OwnerChainSaid : Prop := ownerChainRow.holds Try.pinned (OpenSpec.ofChange ownerChainSpec)

/-- ITS FALSE NEIGHBOUR: 'it returns false'. Refute it at one input. -/
def ownerChainWrong : ChangeSpec := { name := "ownerChain", fn := fun _ => fun
  | [d1, d2] => { results := [.lit (.bool false)], args := [d1, d2] }
  | _ => none }
def OwnerChainWrongFalsely : Prop := ownerChainRow.holds Try.pinned (OpenSpec.ofChange ownerChainWrong)

/-- 'forerunnerlaw11.OwnerLoads': WHATEVER THE INPUT: true; the input reads as it did. -/
def ownerLoadsSpec : ChangeSpec := { name := "ownerLoads", fn := fun _ => fun
  | [d1, d2, d3, d4] => { results := [.lit (.bool true)], args := [d1, d2, d3, d4] }
  | _ => none }
def ownerLoadsRow : OpenClaim := { program := "ytnhpkdkffpagdaa", sum := "f2663b3a2fcf489a1177235bb04baeade6ef5436dd473873f799fd44c8fc0df0", func := "forerunner/forerunnerlaw11.OwnerLoads", spec := "ownerLoads", unfollowed := true, recurses := true, apart := false }
def OwnerLoadsSaid : Prop := ownerLoadsRow.holds Try.pinned (OpenSpec.ofChange ownerLoadsSpec)

/-- ITS FALSE NEIGHBOUR: 'it returns false'. Refute it at one input. -/
def ownerLoadsWrong : ChangeSpec := { name := "ownerLoads", fn := fun _ => fun
  | [d1, d2, d3, d4] => { results := [.lit (.bool false)], args := [d1, d2, d3, d4] }
  | _ => none }
def OwnerLoadsWrongFalsely : Prop := ownerLoadsRow.holds Try.pinned (OpenSpec.ofChange ownerLoadsWrong)

/-- 'forerunnerlaw12.EmitTells': WHATEVER THE INPUT: true; the input reads as it did. -/
def emitTellsSpec : ChangeSpec := { name := "emitTells", fn := fun _ => fun
  | [d1, d2, d3, d4] => { results := [.lit (.bool true)], args := [d1, d2, d3, d4] }
  | _ => none }
def emitTellsRow : OpenClaim := { program := "ytnhpkdkffpagdaa", sum := "f2663b3a2fcf489a1177235bb04baeade6ef5436dd473873f799fd44c8fc0df0", func := "forerunner/forerunnerlaw12.EmitTells", spec := "emitTells", unfollowed := true, recurses := true, apart := false }
def EmitTellsSaid : Prop := emitTellsRow.holds Try.pinned (OpenSpec.ofChange emitTellsSpec)

/-- ITS FALSE NEIGHBOUR: 'it returns false'. Refute it at one input. -/
def emitTellsWrong : ChangeSpec := { name := "emitTells", fn := fun _ => fun
  | [d1, d2, d3, d4] => { results := [.lit (.bool false)], args := [d1, d2, d3, d4] }
  | _ => none }
def EmitTellsWrongFalsely : Prop := emitTellsRow.holds Try.pinned (OpenSpec.ofChange emitTellsWrong)

/-- 'forerunnerlaw12.EmitPairs': WHATEVER THE INPUT: true; the input reads as it did. -/
def emitPairsSpec : ChangeSpec := { name := "emitPairs", fn := fun _ => fun
  | [d1, d2, d3, d4] => { results := [.lit (.bool true)], args := [d1, d2, d3, d4] }
  | _ => none }
def emitPairsRow : OpenClaim := { program := "ytnhpkdkffpagdaa", sum := "f2663b3a2fcf489a1177235bb04baeade6ef5436dd473873f799fd44c8fc0df0", func := "forerunner/forerunnerlaw12.EmitPairs", spec := "emitPairs", unfollowed := true, recurses := true, apart := false }
def EmitPairsSaid : Prop := emitPairsRow.holds Try.pinned (OpenSpec.ofChange emitPairsSpec)

/-- ITS FALSE NEIGHBOUR: 'it returns false'. Refute it at one input. -/
def emitPairsWrong : ChangeSpec := { name := "emitPairs", fn := fun _ => fun
  | [d1, d2, d3, d4] => { results := [.lit (.bool false)], args := [d1, d2, d3, d4] }
  | _ => none }
def EmitPairsWrongFalsely : Prop := emitPairsRow.holds Try.pinned (OpenSpec.ofChange emitPairsWrong)

/-- 'forerunnerlaw12.EmitPlaces': WHATEVER THE INPUT: true; the input reads as it did. -/
def emitPlacesSpec : ChangeSpec := { name := "emitPlaces", fn := fun _ => fun
  | [d1, d2, d3, d4, d5, d6] => { results := [.lit (.bool true)], args := [d1, d2, d3, d4, d5, d6] }
  | _ => none }
def emitPlacesRow : OpenClaim := { program := "ytnhpkdkffpagdaa", sum := "f2663b3a2fcf489a1177235bb04baeade6ef5436dd473873f799fd44c8fc0df0", func := "forerunner/forerunnerlaw12.EmitPlaces", spec := "emitPlaces", unfollowed := true, recurses := true, apart := false }
def EmitPlacesSaid : Prop := emitPlacesRow.holds Try.pinned (OpenSpec.ofChange emitPlacesSpec)

/-- ITS FALSE NEIGHBOUR: 'it returns false'. Refute it at one input. -/
def emitPlacesWrong : ChangeSpec := { name := "emitPlaces", fn := fun _ => fun
  | [d1, d2, d3, d4, d5, d6] => { results := [.lit (.bool false)], args := [d1, d2, d3, d4, d5, d6] }
  | _ => none }
def EmitPlacesWrongFalsely : Prop := emitPlacesRow.holds Try.pinned (OpenSpec.ofChange emitPlacesWrong)

/-- 'forerunnerlaw12.EmitEach': WHATEVER THE INPUT: true; the input reads as it did. -/
def emitEachSpec : ChangeSpec := { name := "emitEach", fn := fun _ => fun
  | [d] => { results := [.lit (.bool true)], args := [d] }
  | _ => none }
def emitEachRow : OpenClaim := { program := "ytnhpkdkffpagdaa", sum := "f2663b3a2fcf489a1177235bb04baeade6ef5436dd473873f799fd44c8fc0df0", func := "forerunner/forerunnerlaw12.EmitEach", spec := "emitEach", unfollowed := true, recurses := true, apart := false }
def EmitEachSaid : Prop := emitEachRow.holds Try.pinned (OpenSpec.ofChange emitEachSpec)

/-- ITS FALSE NEIGHBOUR: 'it returns false'. Refute it at one input. -/
def emitEachWrong : ChangeSpec := { name := "emitEach", fn := fun _ => fun
  | [d] => { results := [.lit (.bool false)], args := [d] }
  | _ => none }
def EmitEachWrongFalsely : Prop := emitEachRow.holds Try.pinned (OpenSpec.ofChange emitEachWrong)

/- THE SECOND FORM. 'bulk': how many values and letters a reading holds, each counted each time it is reached (what is shared counts as often as it is met; a slice's spare places count too). A statement '..UptoSaid' is the law's where the arguments, and the package variables that the reading takes, are together of bulk at most 1048576: NARROWER than '..Said'. Prove '..Said' where nothing that the law and all that it calls make is longer than what came in: it says more and counts as full. Else prove '..UptoSaid'. A law counts once. -/
mutual
def uptoBulk {H : Type} : DataW H → Nat
  | .lit (.string bytes) => bytes.length + 1
  | .lit _ => 1
  | .nil => 1
  | .ptr d => uptoBulk d + 1
  | .slice elems spare => uptoBulkAll elems + uptoBulkAll spare + 1
  | .agg parts => uptoBulkAll parts + 1
  | .iface _ d => uptoBulk d + 1
  | .map entries => uptoBulkEntries entries + 1
  | .held _ => 1
def uptoBulkAll {H : Type} : List (DataW H) → Nat
  | [] => 0
  | d :: r => uptoBulk d + uptoBulkAll r
def uptoBulkEntries {H : Type} : List (Lit × DataW H) → Nat
  | [] => 0
  | x :: r => uptoBulkEntry x + uptoBulkEntries r
def uptoBulkEntry {H : Type} : Lit × DataW H → Nat
  | (.string bytes, d) => bytes.length + uptoBulk d + 1
  | (_, d) => uptoBulk d + 1
 end
def uptoSmall : (H : Type) → List (DataW H) → Bool := fun _ ds => decide (uptoBulkAll ds ≤ 1048576)
def OpenSpec.upto (s : _root_.Go.ChangeSpec) : _root_.Go.OpenSpec := { _root_.Go.OpenSpec.ofChange s with cond := some uptoSmall }

/-- 'forerunnerlaw11.OwnerTells', WHERE WHAT IT READS IS OF BULK AT MOST 1048576: true; the input reads as it did. -/
def ownerTellsUptoRow : OpenClaim := { program := "ytnhpkdkffpagdaa", sum := "f2663b3a2fcf489a1177235bb04baeade6ef5436dd473873f799fd44c8fc0df0", func := "forerunner/forerunnerlaw11.OwnerTells", spec := "ownerTells", unfollowed := true, recurses := true, apart := false, narrowed := true }
def OwnerTellsUptoSaid : Prop := ownerTellsUptoRow.holds Try.pinned (OpenSpec.upto ownerTellsSpec)

/-- 'forerunnerlaw11.OwnerLeast', WHERE WHAT IT READS IS OF BULK AT MOST 1048576: true; the input reads as it did. -/
def ownerLeastUptoRow : OpenClaim := { program := "ytnhpkdkffpagdaa", sum := "f2663b3a2fcf489a1177235bb04baeade6ef5436dd473873f799fd44c8fc0df0", func := "forerunner/forerunnerlaw11.OwnerLeast", spec := "ownerLeast", unfollowed := true, recurses := true, apart := false, narrowed := true }
def OwnerLeastUptoSaid : Prop := ownerLeastUptoRow.holds Try.pinned (OpenSpec.upto ownerLeastSpec)

/-- 'forerunnerlaw11.OwnerJoins', WHERE WHAT IT READS IS OF BULK AT MOST 1048576: true; the input reads as it did. -/
def ownerJoinsUptoRow : OpenClaim := { program := "ytnhpkdkffpagdaa", sum := "f2663b3a2fcf489a1177235bb04baeade6ef5436dd473873f799fd44c8fc0df0", func := "forerunner/forerunnerlaw11.OwnerJoins", spec := "ownerJoins", unfollowed := true, recurses := true, apart := false, narrowed := true }
def OwnerJoinsUptoSaid : Prop := ownerJoinsUptoRow.holds Try.pinned (OpenSpec.upto ownerJoinsSpec)

/-- 'forerunnerlaw11.OwnerChain', WHERE WHAT IT READS IS OF BULK AT MOST 1048576: true; the input reads as it did. -/
def ownerChainUptoRow : OpenClaim := { program := "ytnhpkdkffpagdaa", sum := "f2663b3a2fcf489a1177235bb04baeade6ef5436dd473873f799fd44c8fc0df0", func := "forerunner/forerunnerlaw11.OwnerChain", spec := "ownerChain", unfollowed := true, recurses := true, apart := false, narrowed := true }
def OwnerChainUptoSaid : Prop := ownerChainUptoRow.holds Try.pinned (OpenSpec.upto ownerChainSpec)

/-- 'forerunnerlaw11.OwnerLoads', WHERE WHAT IT READS IS OF BULK AT MOST 1048576: true; the input reads as it did. -/
def ownerLoadsUptoRow : OpenClaim := { program := "ytnhpkdkffpagdaa", sum := "f2663b3a2fcf489a1177235bb04baeade6ef5436dd473873f799fd44c8fc0df0", func := "forerunner/forerunnerlaw11.OwnerLoads", spec := "ownerLoads", unfollowed := true, recurses := true, apart := false, narrowed := true }
def OwnerLoadsUptoSaid : Prop := ownerLoadsUptoRow.holds Try.pinned (OpenSpec.upto ownerLoadsSpec)

/-- 'forerunnerlaw12.EmitTells', WHERE WHAT IT READS IS OF BULK AT MOST 1048576: true; the input reads as it did. -/
def emitTellsUptoRow : OpenClaim := { program := "ytnhpkdkffpagdaa", sum := "f2663b3a2fcf489a1177235bb04baeade6ef5436dd473873f799fd44c8fc0df0", func := "forerunner/forerunnerlaw12.EmitTells", spec := "emitTells", unfollowed := true, recurses := true, apart := false, narrowed := true }
def EmitTellsUptoSaid : Prop := emitTellsUptoRow.holds Try.pinned (OpenSpec.upto emitTellsSpec)

/-- 'forerunnerlaw12.EmitPairs', WHERE WHAT IT READS IS OF BULK AT MOST 1048576: true; the input reads as it did. -/
def emitPairsUptoRow : OpenClaim := { program := "ytnhpkdkffpagdaa", sum := "f2663b3a2fcf489a1177235bb04baeade6ef5436dd473873f799fd44c8fc0df0", func := "forerunner/forerunnerlaw12.EmitPairs", spec := "emitPairs", unfollowed := true, recurses := true, apart := false, narrowed := true }
def EmitPairsUptoSaid : Prop := emitPairsUptoRow.holds Try.pinned (OpenSpec.upto emitPairsSpec)

/-- 'forerunnerlaw12.EmitPlaces', WHERE WHAT IT READS IS OF BULK AT MOST 1048576: true; the input reads as it did. -/
def emitPlacesUptoRow : OpenClaim := { program := "ytnhpkdkffpagdaa", sum := "f2663b3a2fcf489a1177235bb04baeade6ef5436dd473873f799fd44c8fc0df0", func := "forerunner/forerunnerlaw12.EmitPlaces", spec := "emitPlaces", unfollowed := true, recurses := true, apart := false, narrowed := true }
def EmitPlacesUptoSaid : Prop := emitPlacesUptoRow.holds Try.pinned (OpenSpec.upto emitPlacesSpec)

/-- 'forerunnerlaw12.EmitEach', WHERE WHAT IT READS IS OF BULK AT MOST 1048576: true; the input reads as it did. -/
def emitEachUptoRow : OpenClaim := { program := "ytnhpkdkffpagdaa", sum := "f2663b3a2fcf489a1177235bb04baeade6ef5436dd473873f799fd44c8fc0df0", func := "forerunner/forerunnerlaw12.EmitEach", spec := "emitEach", unfollowed := true, recurses := true, apart := false, narrowed := true }
def EmitEachUptoSaid : Prop := emitEachUptoRow.holds Try.pinned (OpenSpec.upto emitEachSpec)

end Rows
end Go.Proofs.Ytnhpkdkffpagdaa
