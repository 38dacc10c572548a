/-
  No cell of these rows narrows 'for every input' (looked for: loops, veiled, ifaces, maps, wideKeys, modest, calm, conditions, laid).
  DERIVED. THE GIVEN ROWS OF THIS SEAT. 3 by the template 'for every input the law returns true; each argument reads behind the call as it read before'; 0 by the template 'total and deterministic' (their statements: YtacmdkjcmbhgiaaTotals.lean).
  GIVEN WITH THE SEED: the statements are not yours to turn. If you find one false, say at which input.
  Laid BY PROGRAM, IN A SANDBOX (cutbox-rows.mjs): the forced cells as the released guide's own fill.sh prints them over the translation 7456bb1ee51de5a0… (all of the seat's roots in one cut). By AI agents, Wed Nov 11 2026. No macro, syntax, notation, axiom, sorry.
-/
import Derived.Test.YtacmdkjcmbhgiaaChecked
import GoSem.Claim
import GoSem.ClaimJoined
import GoSem.ClaimMapViews
import Derived.JoinedTies
import Derived.KernelRfl
namespace Go.Proofs.Ytacmdkjcmbhgiaa
/- THE CELL 'sum', in the pinned program and in every row, IS THE sha256 OF THE DUMP (.gsa) THAT YtacmdkjcmbhgiaaProg.lean LOADS. Nothing in Lean hashes anything: it is a label: what it is worth is what the hold of that sum in a sandbox is worth. -/
noncomputable def Try.pinned : Pinned := { name := "ytacmdkjcmbhgiaa", sum := "7456bb1ee51de5a0591d9149b579b990c03c8502f41113a95642072d1c20f590", checked := Try.checked }
namespace Rows
def none {H : Type} : Left H := { results := [], args := [] }

/-- 'transomlaw08.NamesChecks': WHATEVER THE INPUT: true; the input reads as it did. -/
def namesChecksSpec : ChangeSpec := { name := "namesChecks", fn := fun _ => fun
  | [d] => { results := [.lit (.bool true)], args := [d] }
  | _ => none }
def namesChecksRow : OpenClaim := { program := "ytacmdkjcmbhgiaa", sum := "7456bb1ee51de5a0591d9149b579b990c03c8502f41113a95642072d1c20f590", func := "transom/transomlaw08.NamesChecks", spec := "namesChecks", apart := false }
def NamesChecksSaid : Prop := namesChecksRow.holds Try.pinned (OpenSpec.ofChange namesChecksSpec)

/-- ITS FALSE NEIGHBOUR: 'it returns false'. Refute it at one input. -/
def namesChecksWrong : ChangeSpec := { name := "namesChecks", fn := fun _ => fun
  | [d] => { results := [.lit (.bool false)], args := [d] }
  | _ => none }
def NamesChecksWrongFalsely : Prop := namesChecksRow.holds Try.pinned (OpenSpec.ofChange namesChecksWrong)

/-- 'transomlaw08.NamesLists': WHATEVER THE INPUT: true; the input reads as it did. -/
def namesListsSpec : ChangeSpec := { name := "namesLists", fn := fun _ => fun
  | [d1, d2, d3] => { results := [.lit (.bool true)], args := [d1, d2, d3] }
  | _ => none }
def namesListsRow : OpenClaim := { program := "ytacmdkjcmbhgiaa", sum := "7456bb1ee51de5a0591d9149b579b990c03c8502f41113a95642072d1c20f590", func := "transom/transomlaw08.NamesLists", spec := "namesLists", apart := false }
def NamesListsSaid : Prop := namesListsRow.holds Try.pinned (OpenSpec.ofChange namesListsSpec)

/-- ITS FALSE NEIGHBOUR: 'it returns false'. Refute it at one input. -/
def namesListsWrong : ChangeSpec := { name := "namesLists", fn := fun _ => fun
  | [d1, d2, d3] => { results := [.lit (.bool false)], args := [d1, d2, d3] }
  | _ => none }
def NamesListsWrongFalsely : Prop := namesListsRow.holds Try.pinned (OpenSpec.ofChange namesListsWrong)

/-- 'transomlaw08.NamesGone': WHATEVER THE INPUT: true; the input reads as it did. -/
def namesGoneSpec : ChangeSpec := { name := "namesGone", fn := fun _ => fun
  | [d1, d2] => { results := [.lit (.bool true)], args := [d1, d2] }
  | _ => none }
def namesGoneRow : OpenClaim := { program := "ytacmdkjcmbhgiaa", sum := "7456bb1ee51de5a0591d9149b579b990c03c8502f41113a95642072d1c20f590", func := "transom/transomlaw08.NamesGone", spec := "namesGone", apart := false }
def NamesGoneSaid : Prop := namesGoneRow.holds Try.pinned (OpenSpec.ofChange namesGoneSpec)

/-- ITS FALSE NEIGHBOUR: 'it returns false'. Refute it at one input. -/
def namesGoneWrong : ChangeSpec := { name := "namesGone", fn := fun _ => fun
  | [d1, d2] => { results := [.lit (.bool false)], args := [d1, d2] }
  | _ => none }
def NamesGoneWrongFalsely : Prop := namesGoneRow.holds Try.pinned (OpenSpec.ofChange namesGoneWrong)

/- THE SECOND FORM. 'bulk': how many values and letters a reading holds, each counted each time it is reached (what is shared counts as often as it is met; a slice's spare places count too). A statement '..UptoSaid' is the law's where the arguments, and the package variables that the reading takes, are together of bulk at most 1048576: NARROWER than '..Said'. Prove '..Said' where nothing that the law and all that it calls make is longer than what came in: it says more and counts as full. Else prove '..UptoSaid'. A law counts once. -/
mutual
def uptoBulk {H : Type} : DataW H → Nat
  | .lit (.string bytes) => bytes.length + 1
  | .lit _ => 1
  | .nil => 1
  | .ptr d => uptoBulk d + 1
  | .slice elems spare => uptoBulkAll elems + uptoBulkAll spare + 1
  | .agg parts => uptoBulkAll parts + 1
  | .iface _ d => uptoBulk d + 1
  | .map entries => uptoBulkEntries entries + 1
  | .held _ => 1
def uptoBulkAll {H : Type} : List (DataW H) → Nat
  | [] => 0
  | d :: r => uptoBulk d + uptoBulkAll r
def uptoBulkEntries {H : Type} : List (Lit × DataW H) → Nat
  | [] => 0
  | x :: r => uptoBulkEntry x + uptoBulkEntries r
def uptoBulkEntry {H : Type} : Lit × DataW H → Nat
  | (.string bytes, d) => bytes.length + uptoBulk d + 1
  | (_, d) => uptoBulk d + 1
 end
def uptoSmall : (H : Type) → List (DataW H) → Bool := fun _ ds => decide (uptoBulkAll ds ≤ 1048576)
def OpenSpec.upto (s : _root_.Go.ChangeSpec) : _root_.Go.OpenSpec := { _root_.Go.OpenSpec.ofChange s with cond := some uptoSmall }

/-- 'transomlaw08.NamesChecks', WHERE WHAT IT READS IS OF BULK AT MOST 1048576: true; the input reads as it did. -/
def namesChecksUptoRow : OpenClaim := { program := "ytacmdkjcmbhgiaa", sum := "7456bb1ee51de5a0591d9149b579b990c03c8502f41113a95642072d1c20f590", func := "transom/transomlaw08.NamesChecks", spec := "namesChecks", apart := false, narrowed := true }
def NamesChecksUptoSaid : Prop := namesChecksUptoRow.holds Try.pinned (OpenSpec.upto namesChecksSpec)

/-- 'transomlaw08.NamesLists', WHERE WHAT IT READS IS OF BULK AT MOST 1048576: true; the input reads as it did. -/
def namesListsUptoRow : OpenClaim := { program := "ytacmdkjcmbhgiaa", sum := "7456bb1ee51de5a0591d9149b579b990c03c8502f41113a95642072d1c20f590", func := "transom/transomlaw08.NamesLists", spec := "namesLists", apart := false, narrowed := true }
def NamesListsUptoSaid : Prop := namesListsUptoRow.holds Try.pinned (OpenSpec.upto namesListsSpec)

/-- 'transomlaw08.NamesGone', WHERE WHAT IT READS IS OF BULK AT MOST 1048576: true; the input reads as it did. -/
def namesGoneUptoRow : OpenClaim := { program := "ytacmdkjcmbhgiaa", sum := "7456bb1ee51de5a0591d9149b579b990c03c8502f41113a95642072d1c20f590", func := "transom/transomlaw08.NamesGone", spec := "namesGone", apart := false, narrowed := true }
def NamesGoneUptoSaid : Prop := namesGoneUptoRow.holds Try.pinned (OpenSpec.upto namesGoneSpec)

end Rows
end Go.Proofs.Ytacmdkjcmbhgiaa
