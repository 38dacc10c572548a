/-
  No cell of these rows narrows 'for every input' (looked for: loops, veiled, ifaces, maps, wideKeys, modest, calm, conditions, laid).
  DERIVED. THE GIVEN ROWS OF THIS SEAT. 3 by the template 'for every input the law returns true; each argument reads behind the call as it read before'; 0 by the template 'total and deterministic' (their statements: YtdnfmfjaljkjkaaTotals.lean).
  GIVEN WITH THE SEED: the statements are not yours to turn. If you find one false, say at which input.
  Laid BY PROGRAM, IN A SANDBOX (cutbox-rows.mjs): the forced cells as the released guide's own fill.sh prints them over the translation 368be91ea19f665e… (all of the seat's roots in one cut). By AI agents, Wed Nov 11 2026. No macro, syntax, notation, axiom, sorry.
-/
import Derived.Test.YtdnfmfjaljkjkaaChecked
import GoSem.Claim
import GoSem.ClaimJoined
import GoSem.ClaimMapViews
import Derived.JoinedTies
import Derived.KernelRfl
namespace Go.Proofs.Ytdnfmfjaljkjkaa
/- THE CELL 'sum', in the pinned program and in every row, IS THE sha256 OF THE DUMP (.gsa) THAT YtdnfmfjaljkjkaaProg.lean LOADS. Nothing in Lean hashes anything: it is a label: what it is worth is what the hold of that sum in a sandbox is worth. -/
noncomputable def Try.pinned : Pinned := { name := "ytdnfmfjaljkjkaa", sum := "368be91ea19f665ec99e6057eb7b567cb9ff9a8476f8bb1b7fdb3ca1adcd3e39", checked := Try.checked }
namespace Rows
def none {H : Type} : Left H := { results := [], args := [] }

/-- 'transomlaw19.EpochsPlays': WHATEVER THE INPUT: true; the input reads as it did. -/
def epochsPlaysSpec : ChangeSpec := { name := "epochsPlays", fn := fun _ => fun
  | [d1, d2, d3] => { results := [.lit (.bool true)], args := [d1, d2, d3] }
  | _ => none }
def epochsPlaysRow : OpenClaim := { program := "ytdnfmfjaljkjkaa", sum := "368be91ea19f665ec99e6057eb7b567cb9ff9a8476f8bb1b7fdb3ca1adcd3e39", func := "transom/transomlaw19.EpochsPlays", spec := "epochsPlays", unfollowed := true, recurses := true, apart := false }
def EpochsPlaysSaid : Prop := epochsPlaysRow.holds Try.pinned (OpenSpec.ofChange epochsPlaysSpec)

/-- ITS FALSE NEIGHBOUR: 'it returns false'. Refute it at one input. -/
def epochsPlaysWrong : ChangeSpec := { name := "epochsPlays", fn := fun _ => fun
  | [d1, d2, d3] => { results := [.lit (.bool false)], args := [d1, d2, d3] }
  | _ => none }
def EpochsPlaysWrongFalsely : Prop := epochsPlaysRow.holds Try.pinned (OpenSpec.ofChange epochsPlaysWrong)

/-- 'transomlaw19.EpochsKeeps': WHATEVER THE INPUT: true; the input reads as it did. -/
def epochsKeepsSpec : ChangeSpec := { name := "epochsKeeps", fn := fun _ => fun
  | [d1, d2] => { results := [.lit (.bool true)], args := [d1, d2] }
  | _ => none }
def epochsKeepsRow : OpenClaim := { program := "ytdnfmfjaljkjkaa", sum := "368be91ea19f665ec99e6057eb7b567cb9ff9a8476f8bb1b7fdb3ca1adcd3e39", func := "transom/transomlaw19.EpochsKeeps", spec := "epochsKeeps", unfollowed := true, recurses := true, apart := false }
def EpochsKeepsSaid : Prop := epochsKeepsRow.holds Try.pinned (OpenSpec.ofChange epochsKeepsSpec)

/-- ITS FALSE NEIGHBOUR: 'it returns false'. Refute it at one input. -/
def epochsKeepsWrong : ChangeSpec := { name := "epochsKeeps", fn := fun _ => fun
  | [d1, d2] => { results := [.lit (.bool false)], args := [d1, d2] }
  | _ => none }
def EpochsKeepsWrongFalsely : Prop := epochsKeepsRow.holds Try.pinned (OpenSpec.ofChange epochsKeepsWrong)

/-- 'transomlaw19.EpochsNone': WHATEVER THE INPUT: true; the input reads as it did. -/
def epochsNoneSpec : ChangeSpec := { name := "epochsNone", fn := fun _ => fun
  | [d] => { results := [.lit (.bool true)], args := [d] }
  | _ => none }
def epochsNoneRow : OpenClaim := { program := "ytdnfmfjaljkjkaa", sum := "368be91ea19f665ec99e6057eb7b567cb9ff9a8476f8bb1b7fdb3ca1adcd3e39", func := "transom/transomlaw19.EpochsNone", spec := "epochsNone", unfollowed := true, recurses := true, apart := false }
def EpochsNoneSaid : Prop := epochsNoneRow.holds Try.pinned (OpenSpec.ofChange epochsNoneSpec)

/-- ITS FALSE NEIGHBOUR: 'it returns false'. Refute it at one input. -/
def epochsNoneWrong : ChangeSpec := { name := "epochsNone", fn := fun _ => fun
  | [d] => { results := [.lit (.bool false)], args := [d] }
  | _ => none }
def EpochsNoneWrongFalsely : Prop := epochsNoneRow.holds Try.pinned (OpenSpec.ofChange epochsNoneWrong)

/- THE SECOND FORM. 'bulk': how many values and letters a reading holds, each counted each time it is reached (what is shared counts as often as it is met; a slice's spare places count too). A statement '..UptoSaid' is the law's where the arguments, and the package variables that the reading takes, are together of bulk at most 1048576: NARROWER than '..Said'. Prove '..Said' where nothing that the law and all that it calls make is longer than what came in: it says more and counts as full. Else prove '..UptoSaid'. A law counts once. -/
mutual
def uptoBulk {H : Type} : DataW H → Nat
  | .lit (.string bytes) => bytes.length + 1
  | .lit _ => 1
  | .nil => 1
  | .ptr d => uptoBulk d + 1
  | .slice elems spare => uptoBulkAll elems + uptoBulkAll spare + 1
  | .agg parts => uptoBulkAll parts + 1
  | .iface _ d => uptoBulk d + 1
  | .map entries => uptoBulkEntries entries + 1
  | .held _ => 1
def uptoBulkAll {H : Type} : List (DataW H) → Nat
  | [] => 0
  | d :: r => uptoBulk d + uptoBulkAll r
def uptoBulkEntries {H : Type} : List (Lit × DataW H) → Nat
  | [] => 0
  | x :: r => uptoBulkEntry x + uptoBulkEntries r
def uptoBulkEntry {H : Type} : Lit × DataW H → Nat
  | (.string bytes, d) => bytes.length + uptoBulk d + 1
  | (_, d) => uptoBulk d + 1
 end
def uptoSmall : (H : Type) → List (DataW H) → Bool := fun _ ds => decide (uptoBulkAll ds ≤ 1048576)
def OpenSpec.upto (s : _root_.Go.ChangeSpec) : _root_.Go.OpenSpec := { _root_.Go.OpenSpec.ofChange s with cond := some uptoSmall }

/-- 'transomlaw19.EpochsPlays', WHERE WHAT IT READS IS OF BULK AT MOST 1048576: true; the input reads as it did. -/
def epochsPlaysUptoRow : OpenClaim := { program := "ytdnfmfjaljkjkaa", sum := "368be91ea19f665ec99e6057eb7b567cb9ff9a8476f8bb1b7fdb3ca1adcd3e39", func := "transom/transomlaw19.EpochsPlays", spec := "epochsPlays", unfollowed := true, recurses := true, apart := false, narrowed := true }
def EpochsPlaysUptoSaid : Prop := epochsPlaysUptoRow.holds Try.pinned (OpenSpec.upto epochsPlaysSpec)

/-- 'transomlaw19.EpochsKeeps', WHERE WHAT IT READS IS OF BULK AT MOST 1048576: true; the input reads as it did. -/
def epochsKeepsUptoRow : OpenClaim := { program := "ytdnfmfjaljkjkaa", sum := "368be91ea19f665ec99e6057eb7b567cb9ff9a8476f8bb1b7fdb3ca1adcd3e39", func := "transom/transomlaw19.EpochsKeeps", spec := "epochsKeeps", unfollowed := true, recurses := true, apart := false, narrowed := true }
def EpochsKeepsUptoSaid : Prop := epochsKeepsUptoRow.holds Try.pinned (OpenSpec.upto epochsKeepsSpec)

/-- 'transomlaw19.EpochsNone', WHERE WHAT IT READS IS OF BULK AT MOST 1048576: true; the input reads as it did. -/
def epochsNoneUptoRow : OpenClaim := { program := "ytdnfmfjaljkjkaa", sum := "368be91ea19f665ec99e6057eb7b567cb9ff9a8476f8bb1b7fdb3ca1adcd3e39", func := "transom/transomlaw19.EpochsNone", spec := "epochsNone", unfollowed := true, recurses := true, apart := false, narrowed := true }
def EpochsNoneUptoSaid : Prop := epochsNoneUptoRow.holds Try.pinned (OpenSpec.upto epochsNoneSpec)

end Rows
end Go.Proofs.Ytdnfmfjaljkjkaa
