/-
  No cell of these rows narrows 'for every input' (looked for: loops, veiled, ifaces, maps, wideKeys, modest, calm, conditions, laid).
  DERIVED. THE GIVEN ROWS OF THIS SEAT. 12 by the template 'for every input the law returns true; each argument reads behind the call as it read before'; 0 by the template 'total and deterministic' (their statements: YtglbcfkmaamhaaaTotals.lean).
  GIVEN WITH THE SEED: the statements are not yours to turn. If you find one false, say at which input.
  Laid BY PROGRAM, IN A SANDBOX (cutbox-rows.mjs): the forced cells as the released guide's own fill.sh prints them over the translation 22a4e65dcda41b93… (all of the seat's roots in one cut). By AI agents, Wed Nov 11 2026. No macro, syntax, notation, axiom, sorry.
-/
import Derived.Test.YtglbcfkmaamhaaaChecked
import GoSem.Claim
import GoSem.ClaimJoined
import GoSem.ClaimMapViews
import Derived.JoinedTies
import Derived.KernelRfl
namespace Go.Proofs.Ytglbcfkmaamhaaa
/- THE CELL 'sum', in the pinned program and in every row, IS THE sha256 OF THE DUMP (.gsa) THAT YtglbcfkmaamhaaaProg.lean LOADS. Nothing in Lean hashes anything: it is a label: what it is worth is what the hold of that sum in a sandbox is worth. -/
noncomputable def Try.pinned : Pinned := { name := "ytglbcfkmaamhaaa", sum := "22a4e65dcda41b93fa11400e7ed1f801fb64ffed33bfd81d3ec720b10242ebba", checked := Try.checked }
namespace Rows
def none {H : Type} : Left H := { results := [], args := [] }

/-- 'transomlaw16.ArenaPlays': WHATEVER THE INPUT: true; the input reads as it did. -/
def arenaPlaysSpec : ChangeSpec := { name := "arenaPlays", fn := fun _ => fun
  | [d1, d2] => { results := [.lit (.bool true)], args := [d1, d2] }
  | _ => none }
def arenaPlaysRow : OpenClaim := { program := "ytglbcfkmaamhaaa", sum := "22a4e65dcda41b93fa11400e7ed1f801fb64ffed33bfd81d3ec720b10242ebba", func := "transom/transomlaw16.ArenaPlays", spec := "arenaPlays", apart := false }
def ArenaPlaysSaid : Prop := arenaPlaysRow.holds Try.pinned (OpenSpec.ofChange arenaPlaysSpec)

/-- ITS FALSE NEIGHBOUR: 'it returns false'. Refute it at one input. -/
def arenaPlaysWrong : ChangeSpec := { name := "arenaPlays", fn := fun _ => fun
  | [d1, d2] => { results := [.lit (.bool false)], args := [d1, d2] }
  | _ => none }
def ArenaPlaysWrongFalsely : Prop := arenaPlaysRow.holds Try.pinned (OpenSpec.ofChange arenaPlaysWrong)

/-- 'transomlaw16.ArenaOnce': WHATEVER THE INPUT: true; the input reads as it did. -/
def arenaOnceSpec : ChangeSpec := { name := "arenaOnce", fn := fun _ => fun
  | [d1, d2] => { results := [.lit (.bool true)], args := [d1, d2] }
  | _ => none }
def arenaOnceRow : OpenClaim := { program := "ytglbcfkmaamhaaa", sum := "22a4e65dcda41b93fa11400e7ed1f801fb64ffed33bfd81d3ec720b10242ebba", func := "transom/transomlaw16.ArenaOnce", spec := "arenaOnce", apart := false }
def ArenaOnceSaid : Prop := arenaOnceRow.holds Try.pinned (OpenSpec.ofChange arenaOnceSpec)

/-- ITS FALSE NEIGHBOUR: 'it returns false'. Refute it at one input. -/
def arenaOnceWrong : ChangeSpec := { name := "arenaOnce", fn := fun _ => fun
  | [d1, d2] => { results := [.lit (.bool false)], args := [d1, d2] }
  | _ => none }
def ArenaOnceWrongFalsely : Prop := arenaOnceRow.holds Try.pinned (OpenSpec.ofChange arenaOnceWrong)

/-- 'transomlaw16.ArenaNone': WHATEVER THE INPUT: true; the input reads as it did. -/
def arenaNoneSpec : ChangeSpec := { name := "arenaNone", fn := fun _ => fun
  | [d1, d2] => { results := [.lit (.bool true)], args := [d1, d2] }
  | _ => none }
def arenaNoneRow : OpenClaim := { program := "ytglbcfkmaamhaaa", sum := "22a4e65dcda41b93fa11400e7ed1f801fb64ffed33bfd81d3ec720b10242ebba", func := "transom/transomlaw16.ArenaNone", spec := "arenaNone", apart := false }
def ArenaNoneSaid : Prop := arenaNoneRow.holds Try.pinned (OpenSpec.ofChange arenaNoneSpec)

/-- ITS FALSE NEIGHBOUR: 'it returns false'. Refute it at one input. -/
def arenaNoneWrong : ChangeSpec := { name := "arenaNone", fn := fun _ => fun
  | [d1, d2] => { results := [.lit (.bool false)], args := [d1, d2] }
  | _ => none }
def ArenaNoneWrongFalsely : Prop := arenaNoneRow.holds Try.pinned (OpenSpec.ofChange arenaNoneWrong)

/-- 'transomlaw17.NodeLooks': WHATEVER THE INPUT: true; the input reads as it did. -/
def nodeLooksSpec : ChangeSpec := { name := "nodeLooks", fn := fun _ => fun
  | [d1, d2] => { results := [.lit (.bool true)], args := [d1, d2] }
  | _ => none }
def nodeLooksRow : OpenClaim := { program := "ytglbcfkmaamhaaa", sum := "22a4e65dcda41b93fa11400e7ed1f801fb64ffed33bfd81d3ec720b10242ebba", func := "transom/transomlaw17.NodeLooks", spec := "nodeLooks", apart := false }
def NodeLooksSaid : Prop := nodeLooksRow.holds Try.pinned (OpenSpec.ofChange nodeLooksSpec)

/-- ITS FALSE NEIGHBOUR: 'it returns false'. Refute it at one input. -/
def nodeLooksWrong : ChangeSpec := { name := "nodeLooks", fn := fun _ => fun
  | [d1, d2] => { results := [.lit (.bool false)], args := [d1, d2] }
  | _ => none }
def NodeLooksWrongFalsely : Prop := nodeLooksRow.holds Try.pinned (OpenSpec.ofChange nodeLooksWrong)

/-- 'transomlaw17.NodeTurns': WHATEVER THE INPUT: true; the input reads as it did. -/
def nodeTurnsSpec : ChangeSpec := { name := "nodeTurns", fn := fun _ => fun
  | [d1, d2, d3] => { results := [.lit (.bool true)], args := [d1, d2, d3] }
  | _ => none }
def nodeTurnsRow : OpenClaim := { program := "ytglbcfkmaamhaaa", sum := "22a4e65dcda41b93fa11400e7ed1f801fb64ffed33bfd81d3ec720b10242ebba", func := "transom/transomlaw17.NodeTurns", spec := "nodeTurns", apart := false }
def NodeTurnsSaid : Prop := nodeTurnsRow.holds Try.pinned (OpenSpec.ofChange nodeTurnsSpec)

/-- ITS FALSE NEIGHBOUR: 'it returns false'. Refute it at one input. -/
def nodeTurnsWrong : ChangeSpec := { name := "nodeTurns", fn := fun _ => fun
  | [d1, d2, d3] => { results := [.lit (.bool false)], args := [d1, d2, d3] }
  | _ => none }
def NodeTurnsWrongFalsely : Prop := nodeTurnsRow.holds Try.pinned (OpenSpec.ofChange nodeTurnsWrong)

/-- 'transomlaw17.NodeParts': WHATEVER THE INPUT: true; the input reads as it did. -/
def nodePartsSpec : ChangeSpec := { name := "nodeParts", fn := fun _ => fun
  | [d1, d2, d3] => { results := [.lit (.bool true)], args := [d1, d2, d3] }
  | _ => none }
def nodePartsRow : OpenClaim := { program := "ytglbcfkmaamhaaa", sum := "22a4e65dcda41b93fa11400e7ed1f801fb64ffed33bfd81d3ec720b10242ebba", func := "transom/transomlaw17.NodeParts", spec := "nodeParts", apart := false }
def NodePartsSaid : Prop := nodePartsRow.holds Try.pinned (OpenSpec.ofChange nodePartsSpec)

/-- ITS FALSE NEIGHBOUR: 'it returns false'. Refute it at one input. -/
def nodePartsWrong : ChangeSpec := { name := "nodeParts", fn := fun _ => fun
  | [d1, d2, d3] => { results := [.lit (.bool false)], args := [d1, d2, d3] }
  | _ => none }
def NodePartsWrongFalsely : Prop := nodePartsRow.holds Try.pinned (OpenSpec.ofChange nodePartsWrong)

/-- 'transomlaw17.NodeBack': WHATEVER THE INPUT: true; the input reads as it did. -/
def nodeBackSpec : ChangeSpec := { name := "nodeBack", fn := fun _ => fun
  | [d] => { results := [.lit (.bool true)], args := [d] }
  | _ => none }
def nodeBackRow : OpenClaim := { program := "ytglbcfkmaamhaaa", sum := "22a4e65dcda41b93fa11400e7ed1f801fb64ffed33bfd81d3ec720b10242ebba", func := "transom/transomlaw17.NodeBack", spec := "nodeBack", apart := false }
def NodeBackSaid : Prop := nodeBackRow.holds Try.pinned (OpenSpec.ofChange nodeBackSpec)

/-- ITS FALSE NEIGHBOUR: 'it returns false'. Refute it at one input. -/
def nodeBackWrong : ChangeSpec := { name := "nodeBack", fn := fun _ => fun
  | [d] => { results := [.lit (.bool false)], args := [d] }
  | _ => none }
def NodeBackWrongFalsely : Prop := nodeBackRow.holds Try.pinned (OpenSpec.ofChange nodeBackWrong)

/-- 'transomlaw18.TreeSame': WHATEVER THE INPUT: true; the input reads as it did. -/
def treeSameSpec : ChangeSpec := { name := "treeSame", fn := fun _ => fun
  | [d1, d2, d3] => { results := [.lit (.bool true)], args := [d1, d2, d3] }
  | _ => none }
def treeSameRow : OpenClaim := { program := "ytglbcfkmaamhaaa", sum := "22a4e65dcda41b93fa11400e7ed1f801fb64ffed33bfd81d3ec720b10242ebba", func := "transom/transomlaw18.TreeSame", spec := "treeSame", unfollowed := true, recurses := true, apart := false }
def TreeSameSaid : Prop := treeSameRow.holds Try.pinned (OpenSpec.ofChange treeSameSpec)

/-- ITS FALSE NEIGHBOUR: 'it returns false'. Refute it at one input. -/
def treeSameWrong : ChangeSpec := { name := "treeSame", fn := fun _ => fun
  | [d1, d2, d3] => { results := [.lit (.bool false)], args := [d1, d2, d3] }
  | _ => none }
def TreeSameWrongFalsely : Prop := treeSameRow.holds Try.pinned (OpenSpec.ofChange treeSameWrong)

/-- 'transomlaw18.TreeLists': WHATEVER THE INPUT: true; the input reads as it did. -/
def treeListsSpec : ChangeSpec := { name := "treeLists", fn := fun _ => fun
  | [d1, d2] => { results := [.lit (.bool true)], args := [d1, d2] }
  | _ => none }
def treeListsRow : OpenClaim := { program := "ytglbcfkmaamhaaa", sum := "22a4e65dcda41b93fa11400e7ed1f801fb64ffed33bfd81d3ec720b10242ebba", func := "transom/transomlaw18.TreeLists", spec := "treeLists", unfollowed := true, recurses := true, apart := false }
def TreeListsSaid : Prop := treeListsRow.holds Try.pinned (OpenSpec.ofChange treeListsSpec)

/-- ITS FALSE NEIGHBOUR: 'it returns false'. Refute it at one input. -/
def treeListsWrong : ChangeSpec := { name := "treeLists", fn := fun _ => fun
  | [d1, d2] => { results := [.lit (.bool false)], args := [d1, d2] }
  | _ => none }
def TreeListsWrongFalsely : Prop := treeListsRow.holds Try.pinned (OpenSpec.ofChange treeListsWrong)

/-- 'transomlaw18.TreeNone': WHATEVER THE INPUT: true; the input reads as it did. -/
def treeNoneSpec : ChangeSpec := { name := "treeNone", fn := fun _ => fun
  | [d] => { results := [.lit (.bool true)], args := [d] }
  | _ => none }
def treeNoneRow : OpenClaim := { program := "ytglbcfkmaamhaaa", sum := "22a4e65dcda41b93fa11400e7ed1f801fb64ffed33bfd81d3ec720b10242ebba", func := "transom/transomlaw18.TreeNone", spec := "treeNone", unfollowed := true, recurses := true, apart := false }
def TreeNoneSaid : Prop := treeNoneRow.holds Try.pinned (OpenSpec.ofChange treeNoneSpec)

/-- ITS FALSE NEIGHBOUR: 'it returns false'. Refute it at one input. -/
def treeNoneWrong : ChangeSpec := { name := "treeNone", fn := fun _ => fun
  | [d] => { results := [.lit (.bool false)], args := [d] }
  | _ => none }
def TreeNoneWrongFalsely : Prop := treeNoneRow.holds Try.pinned (OpenSpec.ofChange treeNoneWrong)

/-- 'transomlaw22.BaseGone': WHATEVER THE INPUT: true; the input reads as it did. -/
def baseGoneSpec : ChangeSpec := { name := "baseGone", fn := fun _ => fun
  | [d1, d2] => { results := [.lit (.bool true)], args := [d1, d2] }
  | _ => none }
def baseGoneRow : OpenClaim := { program := "ytglbcfkmaamhaaa", sum := "22a4e65dcda41b93fa11400e7ed1f801fb64ffed33bfd81d3ec720b10242ebba", func := "transom/transomlaw22.BaseGone", spec := "baseGone", unfollowed := true, recurses := true, apart := false }
def BaseGoneSaid : Prop := baseGoneRow.holds Try.pinned (OpenSpec.ofChange baseGoneSpec)

/-- ITS FALSE NEIGHBOUR: 'it returns false'. Refute it at one input. -/
def baseGoneWrong : ChangeSpec := { name := "baseGone", fn := fun _ => fun
  | [d1, d2] => { results := [.lit (.bool false)], args := [d1, d2] }
  | _ => none }
def BaseGoneWrongFalsely : Prop := baseGoneRow.holds Try.pinned (OpenSpec.ofChange baseGoneWrong)

/-- 'transomlaw22.BaseNone': WHATEVER THE INPUT: true; the input reads as it did. -/
def baseNoneSpec : ChangeSpec := { name := "baseNone", fn := fun _ => fun
  | [d] => { results := [.lit (.bool true)], args := [d] }
  | _ => none }
def baseNoneRow : OpenClaim := { program := "ytglbcfkmaamhaaa", sum := "22a4e65dcda41b93fa11400e7ed1f801fb64ffed33bfd81d3ec720b10242ebba", func := "transom/transomlaw22.BaseNone", spec := "baseNone", unfollowed := true, recurses := true, apart := false }
def BaseNoneSaid : Prop := baseNoneRow.holds Try.pinned (OpenSpec.ofChange baseNoneSpec)

/-- ITS FALSE NEIGHBOUR: 'it returns false'. Refute it at one input. -/
def baseNoneWrong : ChangeSpec := { name := "baseNone", fn := fun _ => fun
  | [d] => { results := [.lit (.bool false)], args := [d] }
  | _ => none }
def BaseNoneWrongFalsely : Prop := baseNoneRow.holds Try.pinned (OpenSpec.ofChange baseNoneWrong)

/- THE SECOND FORM. 'bulk': how many values and letters a reading holds, each counted each time it is reached (what is shared counts as often as it is met; a slice's spare places count too). A statement '..UptoSaid' is the law's where the arguments, and the package variables that the reading takes, are together of bulk at most 1048576: NARROWER than '..Said'. Prove '..Said' where nothing that the law and all that it calls make is longer than what came in: it says more and counts as full. Else prove '..UptoSaid'. A law counts once. -/
mutual
def uptoBulk {H : Type} : DataW H → Nat
  | .lit (.string bytes) => bytes.length + 1
  | .lit _ => 1
  | .nil => 1
  | .ptr d => uptoBulk d + 1
  | .slice elems spare => uptoBulkAll elems + uptoBulkAll spare + 1
  | .agg parts => uptoBulkAll parts + 1
  | .iface _ d => uptoBulk d + 1
  | .map entries => uptoBulkEntries entries + 1
  | .held _ => 1
def uptoBulkAll {H : Type} : List (DataW H) → Nat
  | [] => 0
  | d :: r => uptoBulk d + uptoBulkAll r
def uptoBulkEntries {H : Type} : List (Lit × DataW H) → Nat
  | [] => 0
  | x :: r => uptoBulkEntry x + uptoBulkEntries r
def uptoBulkEntry {H : Type} : Lit × DataW H → Nat
  | (.string bytes, d) => bytes.length + uptoBulk d + 1
  | (_, d) => uptoBulk d + 1
 end
def uptoSmall : (H : Type) → List (DataW H) → Bool := fun _ ds => decide (uptoBulkAll ds ≤ 1048576)
def OpenSpec.upto (s : _root_.Go.ChangeSpec) : _root_.Go.OpenSpec := { _root_.Go.OpenSpec.ofChange s with cond := some uptoSmall }

/-- 'transomlaw16.ArenaPlays', WHERE WHAT IT READS IS OF BULK AT MOST 1048576: true; the input reads as it did. -/
def arenaPlaysUptoRow : OpenClaim := { program := "ytglbcfkmaamhaaa", sum := "22a4e65dcda41b93fa11400e7ed1f801fb64ffed33bfd81d3ec720b10242ebba", func := "transom/transomlaw16.ArenaPlays", spec := "arenaPlays", apart := false, narrowed := true }
def ArenaPlaysUptoSaid : Prop := arenaPlaysUptoRow.holds Try.pinned (OpenSpec.upto arenaPlaysSpec)

/-- 'transomlaw16.ArenaOnce', WHERE WHAT IT READS IS OF BULK AT MOST 1048576: true; the input reads as it did. -/
def arenaOnceUptoRow : OpenClaim := { program := "ytglbcfkmaamhaaa", sum := "22a4e65dcda41b93fa11400e7ed1f801fb64ffed33bfd81d3ec720b10242ebba", func := "transom/transomlaw16.ArenaOnce", spec := "arenaOnce", apart := false, narrowed := true }
def ArenaOnceUptoSaid : Prop := arenaOnceUptoRow.holds Try.pinned (OpenSpec.upto arenaOnceSpec)

/-- 'transomlaw16.ArenaNone', WHERE WHAT IT READS IS OF BULK AT MOST 1048576: true; the input reads as it did. -/
def arenaNoneUptoRow : OpenClaim := { program := "ytglbcfkmaamhaaa", sum := "22a4e65dcda41b93fa11400e7ed1f801fb64ffed33bfd81d3ec720b10242ebba", func := "transom/transomlaw16.ArenaNone", spec := "arenaNone", apart := false, narrowed := true }
def ArenaNoneUptoSaid : Prop := arenaNoneUptoRow.holds Try.pinned (OpenSpec.upto arenaNoneSpec)

/-- 'transomlaw17.NodeLooks', WHERE WHAT IT READS IS OF BULK AT MOST 1048576: true; the input reads as it did. -/
def nodeLooksUptoRow : OpenClaim := { program := "ytglbcfkmaamhaaa", sum := "22a4e65dcda41b93fa11400e7ed1f801fb64ffed33bfd81d3ec720b10242ebba", func := "transom/transomlaw17.NodeLooks", spec := "nodeLooks", apart := false, narrowed := true }
def NodeLooksUptoSaid : Prop := nodeLooksUptoRow.holds Try.pinned (OpenSpec.upto nodeLooksSpec)

/-- 'transomlaw17.NodeTurns', WHERE WHAT IT READS IS OF BULK AT MOST 1048576: true; the input reads as it did. -/
def nodeTurnsUptoRow : OpenClaim := { program := "ytglbcfkmaamhaaa", sum := "22a4e65dcda41b93fa11400e7ed1f801fb64ffed33bfd81d3ec720b10242ebba", func := "transom/transomlaw17.NodeTurns", spec := "nodeTurns", apart := false, narrowed := true }
def NodeTurnsUptoSaid : Prop := nodeTurnsUptoRow.holds Try.pinned (OpenSpec.upto nodeTurnsSpec)

/-- 'transomlaw17.NodeParts', WHERE WHAT IT READS IS OF BULK AT MOST 1048576: true; the input reads as it did. -/
def nodePartsUptoRow : OpenClaim := { program := "ytglbcfkmaamhaaa", sum := "22a4e65dcda41b93fa11400e7ed1f801fb64ffed33bfd81d3ec720b10242ebba", func := "transom/transomlaw17.NodeParts", spec := "nodeParts", apart := false, narrowed := true }
def NodePartsUptoSaid : Prop := nodePartsUptoRow.holds Try.pinned (OpenSpec.upto nodePartsSpec)

/-- 'transomlaw17.NodeBack', WHERE WHAT IT READS IS OF BULK AT MOST 1048576: true; the input reads as it did. -/
def nodeBackUptoRow : OpenClaim := { program := "ytglbcfkmaamhaaa", sum := "22a4e65dcda41b93fa11400e7ed1f801fb64ffed33bfd81d3ec720b10242ebba", func := "transom/transomlaw17.NodeBack", spec := "nodeBack", apart := false, narrowed := true }
def NodeBackUptoSaid : Prop := nodeBackUptoRow.holds Try.pinned (OpenSpec.upto nodeBackSpec)

/-- 'transomlaw18.TreeSame', WHERE WHAT IT READS IS OF BULK AT MOST 1048576: true; the input reads as it did. -/
def treeSameUptoRow : OpenClaim := { program := "ytglbcfkmaamhaaa", sum := "22a4e65dcda41b93fa11400e7ed1f801fb64ffed33bfd81d3ec720b10242ebba", func := "transom/transomlaw18.TreeSame", spec := "treeSame", unfollowed := true, recurses := true, apart := false, narrowed := true }
def TreeSameUptoSaid : Prop := treeSameUptoRow.holds Try.pinned (OpenSpec.upto treeSameSpec)

/-- 'transomlaw18.TreeLists', WHERE WHAT IT READS IS OF BULK AT MOST 1048576: true; the input reads as it did. -/
def treeListsUptoRow : OpenClaim := { program := "ytglbcfkmaamhaaa", sum := "22a4e65dcda41b93fa11400e7ed1f801fb64ffed33bfd81d3ec720b10242ebba", func := "transom/transomlaw18.TreeLists", spec := "treeLists", unfollowed := true, recurses := true, apart := false, narrowed := true }
def TreeListsUptoSaid : Prop := treeListsUptoRow.holds Try.pinned (OpenSpec.upto treeListsSpec)

/-- 'transomlaw18.TreeNone', WHERE WHAT IT READS IS OF BULK AT MOST 1048576: true; the input reads as it did. -/
def treeNoneUptoRow : OpenClaim := { program := "ytglbcfkmaamhaaa", sum := "22a4e65dcda41b93fa11400e7ed1f801fb64ffed33bfd81d3ec720b10242ebba", func := "transom/transomlaw18.TreeNone", spec := "treeNone", unfollowed := true, recurses := true, apart := false, narrowed := true }
def TreeNoneUptoSaid : Prop := treeNoneUptoRow.holds Try.pinned (OpenSpec.upto treeNoneSpec)

/-- 'transomlaw22.BaseGone', WHERE WHAT IT READS IS OF BULK AT MOST 1048576: true; the input reads as it did. -/
def baseGoneUptoRow : OpenClaim := { program := "ytglbcfkmaamhaaa", sum := "22a4e65dcda41b93fa11400e7ed1f801fb64ffed33bfd81d3ec720b10242ebba", func := "transom/transomlaw22.BaseGone", spec := "baseGone", unfollowed := true, recurses := true, apart := false, narrowed := true }
def BaseGoneUptoSaid : Prop := baseGoneUptoRow.holds Try.pinned (OpenSpec.upto baseGoneSpec)

/-- 'transomlaw22.BaseNone', WHERE WHAT IT READS IS OF BULK AT MOST 1048576: true; the input reads as it did. -/
def baseNoneUptoRow : OpenClaim := { program := "ytglbcfkmaamhaaa", sum := "22a4e65dcda41b93fa11400e7ed1f801fb64ffed33bfd81d3ec720b10242ebba", func := "transom/transomlaw22.BaseNone", spec := "baseNone", unfollowed := true, recurses := true, apart := false, narrowed := true }
def BaseNoneUptoSaid : Prop := baseNoneUptoRow.holds Try.pinned (OpenSpec.upto baseNoneSpec)

end Rows
end Go.Proofs.Ytglbcfkmaamhaaa
