/-
  No cell of these rows narrows 'for every input' (looked for: loops, veiled, ifaces, maps, wideKeys, modest, calm, conditions, laid).
  DERIVED. THE GIVEN ROWS OF THIS SEAT. 4 by the template 'for every input the law returns true; each argument reads behind the call as it read before'; 0 by the template 'total and deterministic' (their statements: YtkfmecmmbnehjaaGreatTotals.lean).
  GIVEN WITH THE SEED: the statements are not yours to turn. If you find one false, say at which input.
  Laid BY PROGRAM, IN A SANDBOX (cutbox-rows.mjs): the forced cells as the released guide's own fill.sh prints them over the translation 5fa97416996e9f7f… (all of the seat's roots in one cut). By AI agents, Wed Nov 11 2026. No macro, syntax, notation, axiom, sorry.
-/
import Derived.Test.YtkfmecmmbnehjaaGreatChecked
import GoSem.Claim
import GoSem.ClaimJoined
import GoSem.ClaimMapViews
import Derived.JoinedTies
import Derived.KernelRfl
namespace Go.Proofs.YtkfmecmmbnehjaaGreat
/- THE CELL 'sum', in the pinned program and in every row, IS THE sha256 OF THE DUMP (.gsa) THAT YtkfmecmmbnehjaaGreatProg.lean LOADS. Nothing in Lean hashes anything: it is a label: what it is worth is what the hold of that sum in a sandbox is worth. -/
noncomputable def Tryz.pinned : Pinned := { name := "ytkfmecmmbnehjaagreat", sum := "5fa97416996e9f7fe730be9595fb14405db8f9c57a3883bdff915d90737c752e", checked := Tryz.checked }
namespace Rows
def none {H : Type} : Left H := { results := [], args := [] }

/-- 'forerunnerlaw14.CertTells': WHATEVER THE INPUT: true; the input reads as it did. -/
def certTellsSpec : ChangeSpec := { name := "certTells", fn := fun _ => fun
  | [d1, d2, d3] => { results := [.lit (.bool true)], args := [d1, d2, d3] }
  | _ => none }
def certTellsRow : OpenClaim := { program := "ytkfmecmmbnehjaagreat", sum := "5fa97416996e9f7fe730be9595fb14405db8f9c57a3883bdff915d90737c752e", func := "forerunner/forerunnerlaw14.CertTells", spec := "certTells", unfollowed := true, recurses := true, apart := false }
def CertTellsSaid : Prop := certTellsRow.holds Tryz.pinned (OpenSpec.ofChange certTellsSpec)

/-- ITS FALSE NEIGHBOUR: 'it returns false'. Refute it at one input. -/
def certTellsWrong : ChangeSpec := { name := "certTells", fn := fun _ => fun
  | [d1, d2, d3] => { results := [.lit (.bool false)], args := [d1, d2, d3] }
  | _ => none }
def CertTellsWrongFalsely : Prop := certTellsRow.holds Tryz.pinned (OpenSpec.ofChange certTellsWrong)

/-- 'forerunnerlaw14.CertHolds': WHATEVER THE INPUT: true; the input reads as it did. -/
def certHoldsSpec : ChangeSpec := { name := "certHolds", fn := fun _ => fun
  | [d1, d2] => { results := [.lit (.bool true)], args := [d1, d2] }
  | _ => none }
def certHoldsRow : OpenClaim := { program := "ytkfmecmmbnehjaagreat", sum := "5fa97416996e9f7fe730be9595fb14405db8f9c57a3883bdff915d90737c752e", func := "forerunner/forerunnerlaw14.CertHolds", spec := "certHolds", unfollowed := true, recurses := true, apart := false }
def CertHoldsSaid : Prop := certHoldsRow.holds Tryz.pinned (OpenSpec.ofChange certHoldsSpec)

/-- ITS FALSE NEIGHBOUR: 'it returns false'. Refute it at one input. -/
def certHoldsWrong : ChangeSpec := { name := "certHolds", fn := fun _ => fun
  | [d1, d2] => { results := [.lit (.bool false)], args := [d1, d2] }
  | _ => none }
def CertHoldsWrongFalsely : Prop := certHoldsRow.holds Tryz.pinned (OpenSpec.ofChange certHoldsWrong)

/-- 'forerunnerlaw14.CertTurned': WHATEVER THE INPUT: true; the input reads as it did. -/
def certTurnedSpec : ChangeSpec := { name := "certTurned", fn := fun _ => fun
  | [d1, d2, d3, d4] => { results := [.lit (.bool true)], args := [d1, d2, d3, d4] }
  | _ => none }
def certTurnedRow : OpenClaim := { program := "ytkfmecmmbnehjaagreat", sum := "5fa97416996e9f7fe730be9595fb14405db8f9c57a3883bdff915d90737c752e", func := "forerunner/forerunnerlaw14.CertTurned", spec := "certTurned", unfollowed := true, recurses := true, apart := false }
def CertTurnedSaid : Prop := certTurnedRow.holds Tryz.pinned (OpenSpec.ofChange certTurnedSpec)

/-- ITS FALSE NEIGHBOUR: 'it returns false'. Refute it at one input. -/
def certTurnedWrong : ChangeSpec := { name := "certTurned", fn := fun _ => fun
  | [d1, d2, d3, d4] => { results := [.lit (.bool false)], args := [d1, d2, d3, d4] }
  | _ => none }
def CertTurnedWrongFalsely : Prop := certTurnedRow.holds Tryz.pinned (OpenSpec.ofChange certTurnedWrong)

/-- 'forerunnerlaw14.CertSwapped': WHATEVER THE INPUT: true; the input reads as it did. -/
def certSwappedSpec : ChangeSpec := { name := "certSwapped", fn := fun _ => fun
  | [d1, d2, d3, d4] => { results := [.lit (.bool true)], args := [d1, d2, d3, d4] }
  | _ => none }
def certSwappedRow : OpenClaim := { program := "ytkfmecmmbnehjaagreat", sum := "5fa97416996e9f7fe730be9595fb14405db8f9c57a3883bdff915d90737c752e", func := "forerunner/forerunnerlaw14.CertSwapped", spec := "certSwapped", unfollowed := true, recurses := true, apart := false }
def CertSwappedSaid : Prop := certSwappedRow.holds Tryz.pinned (OpenSpec.ofChange certSwappedSpec)

/-- ITS FALSE NEIGHBOUR: 'it returns false'. Refute it at one input. -/
def certSwappedWrong : ChangeSpec := { name := "certSwapped", fn := fun _ => fun
  | [d1, d2, d3, d4] => { results := [.lit (.bool false)], args := [d1, d2, d3, d4] }
  | _ => none }
def CertSwappedWrongFalsely : Prop := certSwappedRow.holds Tryz.pinned (OpenSpec.ofChange certSwappedWrong)

/- THE SECOND FORM. 'bulk': how many values and letters a reading holds, each counted each time it is reached (what is shared counts as often as it is met; a slice's spare places count too). A statement '..UptoSaid' is the law's where the arguments, and the package variables that the reading takes, are together of bulk at most 1048576: NARROWER than '..Said'. Prove '..Said' where nothing that the law and all that it calls make is longer than what came in: it says more and counts as full. Else prove '..UptoSaid'. A law counts once. -/
mutual
def uptoBulk {H : Type} : DataW H → Nat
  | .lit (.string bytes) => bytes.length + 1
  | .lit _ => 1
  | .nil => 1
  | .ptr d => uptoBulk d + 1
  | .slice elems spare => uptoBulkAll elems + uptoBulkAll spare + 1
  | .agg parts => uptoBulkAll parts + 1
  | .iface _ d => uptoBulk d + 1
  | .map entries => uptoBulkEntries entries + 1
  | .held _ => 1
def uptoBulkAll {H : Type} : List (DataW H) → Nat
  | [] => 0
  | d :: r => uptoBulk d + uptoBulkAll r
def uptoBulkEntries {H : Type} : List (Lit × DataW H) → Nat
  | [] => 0
  | x :: r => uptoBulkEntry x + uptoBulkEntries r
def uptoBulkEntry {H : Type} : Lit × DataW H → Nat
  | (.string bytes, d) => bytes.length + uptoBulk d + 1
  | (_, d) => uptoBulk d + 1
 end
def uptoSmall : (H : Type) → List (DataW H) → Bool := fun _ ds => decide (uptoBulkAll ds ≤ 1048576)
def OpenSpec.upto (s : _root_.Go.ChangeSpec) : _root_.Go.OpenSpec := { _root_.Go.OpenSpec.ofChange s with cond := some uptoSmall }

/-- 'forerunnerlaw14.CertTells', WHERE WHAT IT READS IS OF BULK AT MOST 1048576: true; the input reads as it did. -/
def certTellsUptoRow : OpenClaim := { program := "ytkfmecmmbnehjaagreat", sum := "5fa97416996e9f7fe730be9595fb14405db8f9c57a3883bdff915d90737c752e", func := "forerunner/forerunnerlaw14.CertTells", spec := "certTells", unfollowed := true, recurses := true, apart := false, narrowed := true }
def CertTellsUptoSaid : Prop := certTellsUptoRow.holds Tryz.pinned (OpenSpec.upto certTellsSpec)

/-- 'forerunnerlaw14.CertHolds', WHERE WHAT IT READS IS OF BULK AT MOST 1048576: true; the input reads as it did. -/
def certHoldsUptoRow : OpenClaim := { program := "ytkfmecmmbnehjaagreat", sum := "5fa97416996e9f7fe730be9595fb14405db8f9c57a3883bdff915d90737c752e", func := "forerunner/forerunnerlaw14.CertHolds", spec := "certHolds", unfollowed := true, recurses := true, apart := false, narrowed := true }
def CertHoldsUptoSaid : Prop := certHoldsUptoRow.holds Tryz.pinned (OpenSpec.upto certHoldsSpec)

/-- 'forerunnerlaw14.CertTurned', WHERE WHAT IT READS IS OF BULK AT MOST 1048576: true; the input reads as it did. -/
def certTurnedUptoRow : OpenClaim := { program := "ytkfmecmmbnehjaagreat", sum := "5fa97416996e9f7fe730be9595fb14405db8f9c57a3883bdff915d90737c752e", func := "forerunner/forerunnerlaw14.CertTurned", spec := "certTurned", unfollowed := true, recurses := true, apart := false, narrowed := true }
def CertTurnedUptoSaid : Prop := certTurnedUptoRow.holds Tryz.pinned (OpenSpec.upto certTurnedSpec)

/-- 'forerunnerlaw14.CertSwapped', WHERE WHAT IT READS IS OF BULK AT MOST 1048576: true; the input reads as it did. -/
def certSwappedUptoRow : OpenClaim := { program := "ytkfmecmmbnehjaagreat", sum := "5fa97416996e9f7fe730be9595fb14405db8f9c57a3883bdff915d90737c752e", func := "forerunner/forerunnerlaw14.CertSwapped", spec := "certSwapped", unfollowed := true, recurses := true, apart := false, narrowed := true }
def CertSwappedUptoSaid : Prop := certSwappedUptoRow.holds Tryz.pinned (OpenSpec.upto certSwappedSpec)

end Rows
end Go.Proofs.YtkfmecmmbnehjaaGreat
