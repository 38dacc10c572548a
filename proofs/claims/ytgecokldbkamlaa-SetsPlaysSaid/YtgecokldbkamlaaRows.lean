/-
  No cell of these rows narrows 'for every input' (looked for: loops, veiled, ifaces, maps, wideKeys, modest, calm, conditions, laid).
  DERIVED. THE GIVEN ROWS OF THIS SEAT. 3 by the template 'for every input the law returns true; each argument reads behind the call as it read before'; 0 by the template 'total and deterministic' (their statements: YtgecokldbkamlaaTotals.lean).
  GIVEN WITH THE SEED: the statements are not yours to turn. If you find one false, say at which input.
  Laid BY PROGRAM, IN A SANDBOX (cutbox-rows.mjs): the forced cells as the released guide's own fill.sh prints them over the translation c9cf4a82675e531d… (all of the seat's roots in one cut). By AI agents, Wed Nov 11 2026. No macro, syntax, notation, axiom, sorry.
-/
import Derived.Test.YtgecokldbkamlaaChecked
import GoSem.Claim
import GoSem.ClaimJoined
import GoSem.ClaimMapViews
import Derived.JoinedTies
import Derived.KernelRfl
namespace Go.Proofs.Ytgecokldbkamlaa
/- THE CELL 'sum', in the pinned program and in every row, IS THE sha256 OF THE DUMP (.gsa) THAT YtgecokldbkamlaaProg.lean LOADS. Nothing in Lean hashes anything: it is a label: what it is worth is what the hold of that sum in a sandbox is worth. -/
noncomputable def Try.pinned : Pinned := { name := "ytgecokldbkamlaa", sum := "c9cf4a82675e531df402d6792ef71709a84fab4d79542dc8777ae50362e6fa86", checked := Try.checked }
namespace Rows
def none {H : Type} : Left H := { results := [], args := [] }

/-- 'transomlaw21.SetsPlays': WHATEVER THE INPUT: true; the input reads as it did. -/
def setsPlaysSpec : ChangeSpec := { name := "setsPlays", fn := fun _ => fun
  | [d1, d2] => { results := [.lit (.bool true)], args := [d1, d2] }
  | _ => none }
def setsPlaysRow : OpenClaim := { program := "ytgecokldbkamlaa", sum := "c9cf4a82675e531df402d6792ef71709a84fab4d79542dc8777ae50362e6fa86", func := "transom/transomlaw21.SetsPlays", spec := "setsPlays", unfollowed := true, recurses := true, plainKeys := false, apart := false }
def SetsPlaysSaid : Prop := setsPlaysRow.holds Try.pinned (OpenSpec.ofChange setsPlaysSpec)

/-- ITS FALSE NEIGHBOUR: 'it returns false'. Refute it at one input. -/
def setsPlaysWrong : ChangeSpec := { name := "setsPlays", fn := fun _ => fun
  | [d1, d2] => { results := [.lit (.bool false)], args := [d1, d2] }
  | _ => none }
def SetsPlaysWrongFalsely : Prop := setsPlaysRow.holds Try.pinned (OpenSpec.ofChange setsPlaysWrong)

/-- 'transomlaw21.SetsOnce': WHATEVER THE INPUT: true; the input reads as it did. -/
def setsOnceSpec : ChangeSpec := { name := "setsOnce", fn := fun _ => fun
  | [d] => { results := [.lit (.bool true)], args := [d] }
  | _ => none }
def setsOnceRow : OpenClaim := { program := "ytgecokldbkamlaa", sum := "c9cf4a82675e531df402d6792ef71709a84fab4d79542dc8777ae50362e6fa86", func := "transom/transomlaw21.SetsOnce", spec := "setsOnce", unfollowed := true, recurses := true, plainKeys := false, apart := false }
def SetsOnceSaid : Prop := setsOnceRow.holds Try.pinned (OpenSpec.ofChange setsOnceSpec)

/-- ITS FALSE NEIGHBOUR: 'it returns false'. Refute it at one input. -/
def setsOnceWrong : ChangeSpec := { name := "setsOnce", fn := fun _ => fun
  | [d] => { results := [.lit (.bool false)], args := [d] }
  | _ => none }
def SetsOnceWrongFalsely : Prop := setsOnceRow.holds Try.pinned (OpenSpec.ofChange setsOnceWrong)

/-- 'transomlaw21.SetsNone': WHATEVER THE INPUT: true; the input reads as it did. -/
def setsNoneSpec : ChangeSpec := { name := "setsNone", fn := fun _ => fun
  | [d] => { results := [.lit (.bool true)], args := [d] }
  | _ => none }
def setsNoneRow : OpenClaim := { program := "ytgecokldbkamlaa", sum := "c9cf4a82675e531df402d6792ef71709a84fab4d79542dc8777ae50362e6fa86", func := "transom/transomlaw21.SetsNone", spec := "setsNone", unfollowed := true, recurses := true, plainKeys := false, apart := false }
def SetsNoneSaid : Prop := setsNoneRow.holds Try.pinned (OpenSpec.ofChange setsNoneSpec)

/-- ITS FALSE NEIGHBOUR: 'it returns false'. Refute it at one input. -/
def setsNoneWrong : ChangeSpec := { name := "setsNone", fn := fun _ => fun
  | [d] => { results := [.lit (.bool false)], args := [d] }
  | _ => none }
def SetsNoneWrongFalsely : Prop := setsNoneRow.holds Try.pinned (OpenSpec.ofChange setsNoneWrong)

/- THE SECOND FORM. 'bulk': how many values and letters a reading holds, each counted each time it is reached (what is shared counts as often as it is met; a slice's spare places count too). A statement '..UptoSaid' is the law's where the arguments, and the package variables that the reading takes, are together of bulk at most 1048576: NARROWER than '..Said'. Prove '..Said' where nothing that the law and all that it calls make is longer than what came in: it says more and counts as full. Else prove '..UptoSaid'. A law counts once. -/
mutual
def uptoBulk {H : Type} : DataW H → Nat
  | .lit (.string bytes) => bytes.length + 1
  | .lit _ => 1
  | .nil => 1
  | .ptr d => uptoBulk d + 1
  | .slice elems spare => uptoBulkAll elems + uptoBulkAll spare + 1
  | .agg parts => uptoBulkAll parts + 1
  | .iface _ d => uptoBulk d + 1
  | .map entries => uptoBulkEntries entries + 1
  | .held _ => 1
def uptoBulkAll {H : Type} : List (DataW H) → Nat
  | [] => 0
  | d :: r => uptoBulk d + uptoBulkAll r
def uptoBulkEntries {H : Type} : List (Lit × DataW H) → Nat
  | [] => 0
  | x :: r => uptoBulkEntry x + uptoBulkEntries r
def uptoBulkEntry {H : Type} : Lit × DataW H → Nat
  | (.string bytes, d) => bytes.length + uptoBulk d + 1
  | (_, d) => uptoBulk d + 1
 end
def uptoSmall : (H : Type) → List (DataW H) → Bool := fun _ ds => decide (uptoBulkAll ds ≤ 1048576)
def OpenSpec.upto (s : _root_.Go.ChangeSpec) : _root_.Go.OpenSpec := { _root_.Go.OpenSpec.ofChange s with cond := some uptoSmall }

/-- 'transomlaw21.SetsPlays', WHERE WHAT IT READS IS OF BULK AT MOST 1048576: true; the input reads as it did. -/
def setsPlaysUptoRow : OpenClaim := { program := "ytgecokldbkamlaa", sum := "c9cf4a82675e531df402d6792ef71709a84fab4d79542dc8777ae50362e6fa86", func := "transom/transomlaw21.SetsPlays", spec := "setsPlays", unfollowed := true, recurses := true, plainKeys := false, apart := false, narrowed := true }
def SetsPlaysUptoSaid : Prop := setsPlaysUptoRow.holds Try.pinned (OpenSpec.upto setsPlaysSpec)

/-- 'transomlaw21.SetsOnce', WHERE WHAT IT READS IS OF BULK AT MOST 1048576: true; the input reads as it did. -/
def setsOnceUptoRow : OpenClaim := { program := "ytgecokldbkamlaa", sum := "c9cf4a82675e531df402d6792ef71709a84fab4d79542dc8777ae50362e6fa86", func := "transom/transomlaw21.SetsOnce", spec := "setsOnce", unfollowed := true, recurses := true, plainKeys := false, apart := false, narrowed := true }
def SetsOnceUptoSaid : Prop := setsOnceUptoRow.holds Try.pinned (OpenSpec.upto setsOnceSpec)

/-- 'transomlaw21.SetsNone', WHERE WHAT IT READS IS OF BULK AT MOST 1048576: true; the input reads as it did. -/
def setsNoneUptoRow : OpenClaim := { program := "ytgecokldbkamlaa", sum := "c9cf4a82675e531df402d6792ef71709a84fab4d79542dc8777ae50362e6fa86", func := "transom/transomlaw21.SetsNone", spec := "setsNone", unfollowed := true, recurses := true, plainKeys := false, apart := false, narrowed := true }
def SetsNoneUptoSaid : Prop := setsNoneUptoRow.holds Try.pinned (OpenSpec.upto setsNoneSpec)

end Rows
end Go.Proofs.Ytgecokldbkamlaa
