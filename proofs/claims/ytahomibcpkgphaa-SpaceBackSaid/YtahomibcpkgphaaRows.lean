/-
  No cell of these rows narrows 'for every input' (looked for: loops, veiled, ifaces, maps, wideKeys, modest, calm, conditions, laid).
  DERIVED. THE GIVEN ROWS OF THIS SEAT. 4 by the template 'for every input the law returns true; each argument reads behind the call as it read before'; 0 by the template 'total and deterministic' (their statements: YtahomibcpkgphaaTotals.lean).
  GIVEN WITH THE SEED: the statements are not yours to turn. If you find one false, say at which input.
  Laid BY PROGRAM, IN A SANDBOX (cutbox-rows.mjs): the forced cells as the released guide's own fill.sh prints them over the translation 52e15e9b0c94667a… (all of the seat's roots in one cut). By AI agents, Wed Nov 11 2026. No macro, syntax, notation, axiom, sorry.
-/
import Derived.Test.YtahomibcpkgphaaChecked
import GoSem.Claim
import GoSem.ClaimJoined
import GoSem.ClaimMapViews
import Derived.JoinedTies
import Derived.KernelRfl
namespace Go.Proofs.Ytahomibcpkgphaa
/- THE CELL 'sum', in the pinned program and in every row, IS THE sha256 OF THE DUMP (.gsa) THAT YtahomibcpkgphaaProg.lean LOADS. Nothing in Lean hashes anything: it is a label: what it is worth is what the hold of that sum in a sandbox is worth. -/
noncomputable def Try.pinned : Pinned := { name := "ytahomibcpkgphaa", sum := "52e15e9b0c94667a8bd3c969211cc2492e8c211d98d63b39f4cb7a4650616d7b", checked := Try.checked }
namespace Rows
def none {H : Type} : Left H := { results := [], args := [] }

/-- 'transomlaw25.SpaceBounds': WHATEVER THE INPUT: true; the input reads as it did. -/
def spaceBoundsSpec : ChangeSpec := { name := "spaceBounds", fn := fun _ => fun
  | [d1, d2, d3] => { results := [.lit (.bool true)], args := [d1, d2, d3] }
  | _ => none }
def spaceBoundsRow : OpenClaim := { program := "ytahomibcpkgphaa", sum := "52e15e9b0c94667a8bd3c969211cc2492e8c211d98d63b39f4cb7a4650616d7b", func := "transom/transomlaw25.SpaceBounds", spec := "spaceBounds", apart := false }
def SpaceBoundsSaid : Prop := spaceBoundsRow.holds Try.pinned (OpenSpec.ofChange spaceBoundsSpec)

/-- ITS FALSE NEIGHBOUR: 'it returns false'. Refute it at one input. -/
def spaceBoundsWrong : ChangeSpec := { name := "spaceBounds", fn := fun _ => fun
  | [d1, d2, d3] => { results := [.lit (.bool false)], args := [d1, d2, d3] }
  | _ => none }
def SpaceBoundsWrongFalsely : Prop := spaceBoundsRow.holds Try.pinned (OpenSpec.ofChange spaceBoundsWrong)

/-- 'transomlaw25.SpaceReads': WHATEVER THE INPUT: true; the input reads as it did. -/
def spaceReadsSpec : ChangeSpec := { name := "spaceReads", fn := fun _ => fun
  | [d] => { results := [.lit (.bool true)], args := [d] }
  | _ => none }
def spaceReadsRow : OpenClaim := { program := "ytahomibcpkgphaa", sum := "52e15e9b0c94667a8bd3c969211cc2492e8c211d98d63b39f4cb7a4650616d7b", func := "transom/transomlaw25.SpaceReads", spec := "spaceReads", apart := false }
def SpaceReadsSaid : Prop := spaceReadsRow.holds Try.pinned (OpenSpec.ofChange spaceReadsSpec)

/-- ITS FALSE NEIGHBOUR: 'it returns false'. Refute it at one input. -/
def spaceReadsWrong : ChangeSpec := { name := "spaceReads", fn := fun _ => fun
  | [d] => { results := [.lit (.bool false)], args := [d] }
  | _ => none }
def SpaceReadsWrongFalsely : Prop := spaceReadsRow.holds Try.pinned (OpenSpec.ofChange spaceReadsWrong)

/-- 'transomlaw25.SpacePuts': WHATEVER THE INPUT: true; the input reads as it did. -/
def spacePutsSpec : ChangeSpec := { name := "spacePuts", fn := fun _ => fun
  | [d1, d2, d3] => { results := [.lit (.bool true)], args := [d1, d2, d3] }
  | _ => none }
def spacePutsRow : OpenClaim := { program := "ytahomibcpkgphaa", sum := "52e15e9b0c94667a8bd3c969211cc2492e8c211d98d63b39f4cb7a4650616d7b", func := "transom/transomlaw25.SpacePuts", spec := "spacePuts", apart := false }
def SpacePutsSaid : Prop := spacePutsRow.holds Try.pinned (OpenSpec.ofChange spacePutsSpec)

/-- ITS FALSE NEIGHBOUR: 'it returns false'. Refute it at one input. -/
def spacePutsWrong : ChangeSpec := { name := "spacePuts", fn := fun _ => fun
  | [d1, d2, d3] => { results := [.lit (.bool false)], args := [d1, d2, d3] }
  | _ => none }
def SpacePutsWrongFalsely : Prop := spacePutsRow.holds Try.pinned (OpenSpec.ofChange spacePutsWrong)

/-- 'transomlaw25.SpaceBack': WHATEVER THE INPUT: true; the input reads as it did. -/
def spaceBackSpec : ChangeSpec := { name := "spaceBack", fn := fun _ => fun
  | [d1, d2, d3] => { results := [.lit (.bool true)], args := [d1, d2, d3] }
  | _ => none }
def spaceBackRow : OpenClaim := { program := "ytahomibcpkgphaa", sum := "52e15e9b0c94667a8bd3c969211cc2492e8c211d98d63b39f4cb7a4650616d7b", func := "transom/transomlaw25.SpaceBack", spec := "spaceBack", apart := false }
def SpaceBackSaid : Prop := spaceBackRow.holds Try.pinned (OpenSpec.ofChange spaceBackSpec)

/-- ITS FALSE NEIGHBOUR: 'it returns false'. Refute it at one input. -/
def spaceBackWrong : ChangeSpec := { name := "spaceBack", fn := fun _ => fun
  | [d1, d2, d3] => { results := [.lit (.bool false)], args := [d1, d2, d3] }
  | _ => none }
def SpaceBackWrongFalsely : Prop := spaceBackRow.holds Try.pinned (OpenSpec.ofChange spaceBackWrong)

/- THE SECOND FORM. 'bulk': how many values and letters a reading holds, each counted each time it is reached (what is shared counts as often as it is met; a slice's spare places count too). A statement '..UptoSaid' is the law's where the arguments, and the package variables that the reading takes, are together of bulk at most 1048576: NARROWER than '..Said'. Prove '..Said' where nothing that the law and all that it calls make is longer than what came in: it says more and counts as full. Else prove '..UptoSaid'. A law counts once. -/
mutual
def uptoBulk {H : Type} : DataW H → Nat
  | .lit (.string bytes) => bytes.length + 1
  | .lit _ => 1
  | .nil => 1
  | .ptr d => uptoBulk d + 1
  | .slice elems spare => uptoBulkAll elems + uptoBulkAll spare + 1
  | .agg parts => uptoBulkAll parts + 1
  | .iface _ d => uptoBulk d + 1
  | .map entries => uptoBulkEntries entries + 1
  | .held _ => 1
def uptoBulkAll {H : Type} : List (DataW H) → Nat
  | [] => 0
  | d :: r => uptoBulk d + uptoBulkAll r
def uptoBulkEntries {H : Type} : List (Lit × DataW H) → Nat
  | [] => 0
  | x :: r => uptoBulkEntry x + uptoBulkEntries r
def uptoBulkEntry {H : Type} : Lit × DataW H → Nat
  | (.string bytes, d) => bytes.length + uptoBulk d + 1
  | (_, d) => uptoBulk d + 1
 end
def uptoSmall : (H : Type) → List (DataW H) → Bool := fun _ ds => decide (uptoBulkAll ds ≤ 1048576)
def OpenSpec.upto (s : _root_.Go.ChangeSpec) : _root_.Go.OpenSpec := { _root_.Go.OpenSpec.ofChange s with cond := some uptoSmall }

/-- 'transomlaw25.SpaceBounds', WHERE WHAT IT READS IS OF BULK AT MOST 1048576: true; the input reads as it did. -/
def spaceBoundsUptoRow : OpenClaim := { program := "ytahomibcpkgphaa", sum := "52e15e9b0c94667a8bd3c969211cc2492e8c211d98d63b39f4cb7a4650616d7b", func := "transom/transomlaw25.SpaceBounds", spec := "spaceBounds", apart := false, narrowed := true }
def SpaceBoundsUptoSaid : Prop := spaceBoundsUptoRow.holds Try.pinned (OpenSpec.upto spaceBoundsSpec)

/-- 'transomlaw25.SpaceReads', WHERE WHAT IT READS IS OF BULK AT MOST 1048576: true; the input reads as it did. -/
def spaceReadsUptoRow : OpenClaim := { program := "ytahomibcpkgphaa", sum := "52e15e9b0c94667a8bd3c969211cc2492e8c211d98d63b39f4cb7a4650616d7b", func := "transom/transomlaw25.SpaceReads", spec := "spaceReads", apart := false, narrowed := true }
def SpaceReadsUptoSaid : Prop := spaceReadsUptoRow.holds Try.pinned (OpenSpec.upto spaceReadsSpec)

/-- 'transomlaw25.SpacePuts', WHERE WHAT IT READS IS OF BULK AT MOST 1048576: true; the input reads as it did. -/
def spacePutsUptoRow : OpenClaim := { program := "ytahomibcpkgphaa", sum := "52e15e9b0c94667a8bd3c969211cc2492e8c211d98d63b39f4cb7a4650616d7b", func := "transom/transomlaw25.SpacePuts", spec := "spacePuts", apart := false, narrowed := true }
def SpacePutsUptoSaid : Prop := spacePutsUptoRow.holds Try.pinned (OpenSpec.upto spacePutsSpec)

/-- 'transomlaw25.SpaceBack', WHERE WHAT IT READS IS OF BULK AT MOST 1048576: true; the input reads as it did. -/
def spaceBackUptoRow : OpenClaim := { program := "ytahomibcpkgphaa", sum := "52e15e9b0c94667a8bd3c969211cc2492e8c211d98d63b39f4cb7a4650616d7b", func := "transom/transomlaw25.SpaceBack", spec := "spaceBack", apart := false, narrowed := true }
def SpaceBackUptoSaid : Prop := spaceBackUptoRow.holds Try.pinned (OpenSpec.upto spaceBackSpec)

end Rows
end Go.Proofs.Ytahomibcpkgphaa
