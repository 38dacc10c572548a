/-
  No cell of these rows narrows 'for every input' (looked for: loops, veiled, ifaces, maps, wideKeys, modest, calm, conditions, laid).
  DERIVED. THE GIVEN ROWS OF THIS SEAT. 5 by the template 'for every input the law returns true; each argument reads behind the call as it read before'; 0 by the template 'total and deterministic' (their statements: YtjfilonjmpfkfaaTotals.lean).
  GIVEN WITH THE SEED: the statements are not yours to turn. If you find one false, say at which input.
  Laid BY PROGRAM, IN A SANDBOX (cutbox-rows.mjs): the forced cells as the released guide's own fill.sh prints them over the translation a7bc030a393e5f38… (all of the seat's roots in one cut). By AI agents, Wed Nov 11 2026. No macro, syntax, notation, axiom, sorry.
-/
import Derived.Test.YtjfilonjmpfkfaaChecked
import GoSem.Claim
import GoSem.ClaimJoined
import GoSem.ClaimMapViews
import Derived.JoinedTies
import Derived.KernelRfl
namespace Go.Proofs.Ytjfilonjmpfkfaa
/- THE CELL 'sum', in the pinned program and in every row, IS THE sha256 OF THE DUMP (.gsa) THAT YtjfilonjmpfkfaaProg.lean LOADS. Nothing in Lean hashes anything: it is a label: what it is worth is what the hold of that sum in a sandbox is worth. -/
noncomputable def Try.pinned : Pinned := { name := "ytjfilonjmpfkfaa", sum := "a7bc030a393e5f38b21a8947e0968394f91ed92e2fff7cd806b3d8fe733f2b53", checked := Try.checked }
namespace Rows
def none {H : Type} : Left H := { results := [], args := [] }

/-- 'transomlaw15.TidMakes': WHATEVER THE INPUT: true; the input reads as it did. -/
def tidMakesSpec : ChangeSpec := { name := "tidMakes", fn := fun _ => fun
  | [d1, d2] => { results := [.lit (.bool true)], args := [d1, d2] }
  | _ => none }
def tidMakesRow : OpenClaim := { program := "ytjfilonjmpfkfaa", sum := "a7bc030a393e5f38b21a8947e0968394f91ed92e2fff7cd806b3d8fe733f2b53", func := "transom/transomlaw15.TidMakes", spec := "tidMakes", apart := false }
def TidMakesSaid : Prop := tidMakesRow.holds Try.pinned (OpenSpec.ofChange tidMakesSpec)

/-- ITS FALSE NEIGHBOUR: 'it returns false'. Refute it at one input. -/
def tidMakesWrong : ChangeSpec := { name := "tidMakes", fn := fun _ => fun
  | [d1, d2] => { results := [.lit (.bool false)], args := [d1, d2] }
  | _ => none }
def TidMakesWrongFalsely : Prop := tidMakesRow.holds Try.pinned (OpenSpec.ofChange tidMakesWrong)

/-- 'transomlaw15.TidBits': WHATEVER THE INPUT: true; the input reads as it did. -/
def tidBitsSpec : ChangeSpec := { name := "tidBits", fn := fun _ => fun
  | [d1, d2, d3] => { results := [.lit (.bool true)], args := [d1, d2, d3] }
  | _ => none }
def tidBitsRow : OpenClaim := { program := "ytjfilonjmpfkfaa", sum := "a7bc030a393e5f38b21a8947e0968394f91ed92e2fff7cd806b3d8fe733f2b53", func := "transom/transomlaw15.TidBits", spec := "tidBits", apart := false }
def TidBitsSaid : Prop := tidBitsRow.holds Try.pinned (OpenSpec.ofChange tidBitsSpec)

/-- ITS FALSE NEIGHBOUR: 'it returns false'. Refute it at one input. -/
def tidBitsWrong : ChangeSpec := { name := "tidBits", fn := fun _ => fun
  | [d1, d2, d3] => { results := [.lit (.bool false)], args := [d1, d2, d3] }
  | _ => none }
def TidBitsWrongFalsely : Prop := tidBitsRow.holds Try.pinned (OpenSpec.ofChange tidBitsWrong)

/-- 'transomlaw15.TidNexts': WHATEVER THE INPUT: true; the input reads as it did. -/
def tidNextsSpec : ChangeSpec := { name := "tidNexts", fn := fun _ => fun
  | [d1, d2] => { results := [.lit (.bool true)], args := [d1, d2] }
  | _ => none }
def tidNextsRow : OpenClaim := { program := "ytjfilonjmpfkfaa", sum := "a7bc030a393e5f38b21a8947e0968394f91ed92e2fff7cd806b3d8fe733f2b53", func := "transom/transomlaw15.TidNexts", spec := "tidNexts", apart := false }
def TidNextsSaid : Prop := tidNextsRow.holds Try.pinned (OpenSpec.ofChange tidNextsSpec)

/-- ITS FALSE NEIGHBOUR: 'it returns false'. Refute it at one input. -/
def tidNextsWrong : ChangeSpec := { name := "tidNexts", fn := fun _ => fun
  | [d1, d2] => { results := [.lit (.bool false)], args := [d1, d2] }
  | _ => none }
def TidNextsWrongFalsely : Prop := tidNextsRow.holds Try.pinned (OpenSpec.ofChange tidNextsWrong)

/-- 'transomlaw15.TidBack': WHATEVER THE INPUT: true; the input reads as it did. -/
def tidBackSpec : ChangeSpec := { name := "tidBack", fn := fun _ => fun
  | [d1, d2, d3] => { results := [.lit (.bool true)], args := [d1, d2, d3] }
  | _ => none }
def tidBackRow : OpenClaim := { program := "ytjfilonjmpfkfaa", sum := "a7bc030a393e5f38b21a8947e0968394f91ed92e2fff7cd806b3d8fe733f2b53", func := "transom/transomlaw15.TidBack", spec := "tidBack", apart := false }
def TidBackSaid : Prop := tidBackRow.holds Try.pinned (OpenSpec.ofChange tidBackSpec)

/-- ITS FALSE NEIGHBOUR: 'it returns false'. Refute it at one input. -/
def tidBackWrong : ChangeSpec := { name := "tidBack", fn := fun _ => fun
  | [d1, d2, d3] => { results := [.lit (.bool false)], args := [d1, d2, d3] }
  | _ => none }
def TidBackWrongFalsely : Prop := tidBackRow.holds Try.pinned (OpenSpec.ofChange tidBackWrong)

/-- 'transomlaw15.TidRises': WHATEVER THE INPUT: true; the input reads as it did. -/
def tidRisesSpec : ChangeSpec := { name := "tidRises", fn := fun _ => fun
  | [d1, d2] => { results := [.lit (.bool true)], args := [d1, d2] }
  | _ => none }
def tidRisesRow : OpenClaim := { program := "ytjfilonjmpfkfaa", sum := "a7bc030a393e5f38b21a8947e0968394f91ed92e2fff7cd806b3d8fe733f2b53", func := "transom/transomlaw15.TidRises", spec := "tidRises", apart := false }
def TidRisesSaid : Prop := tidRisesRow.holds Try.pinned (OpenSpec.ofChange tidRisesSpec)

/-- ITS FALSE NEIGHBOUR: 'it returns false'. Refute it at one input. -/
def tidRisesWrong : ChangeSpec := { name := "tidRises", fn := fun _ => fun
  | [d1, d2] => { results := [.lit (.bool false)], args := [d1, d2] }
  | _ => none }
def TidRisesWrongFalsely : Prop := tidRisesRow.holds Try.pinned (OpenSpec.ofChange tidRisesWrong)

/- THE SECOND FORM. 'bulk': how many values and letters a reading holds, each counted each time it is reached (what is shared counts as often as it is met; a slice's spare places count too). A statement '..UptoSaid' is the law's where the arguments, and the package variables that the reading takes, are together of bulk at most 1048576: NARROWER than '..Said'. Prove '..Said' where nothing that the law and all that it calls make is longer than what came in: it says more and counts as full. Else prove '..UptoSaid'. A law counts once. -/
mutual
def uptoBulk {H : Type} : DataW H → Nat
  | .lit (.string bytes) => bytes.length + 1
  | .lit _ => 1
  | .nil => 1
  | .ptr d => uptoBulk d + 1
  | .slice elems spare => uptoBulkAll elems + uptoBulkAll spare + 1
  | .agg parts => uptoBulkAll parts + 1
  | .iface _ d => uptoBulk d + 1
  | .map entries => uptoBulkEntries entries + 1
  | .held _ => 1
def uptoBulkAll {H : Type} : List (DataW H) → Nat
  | [] => 0
  | d :: r => uptoBulk d + uptoBulkAll r
def uptoBulkEntries {H : Type} : List (Lit × DataW H) → Nat
  | [] => 0
  | x :: r => uptoBulkEntry x + uptoBulkEntries r
def uptoBulkEntry {H : Type} : Lit × DataW H → Nat
  | (.string bytes, d) => bytes.length + uptoBulk d + 1
  | (_, d) => uptoBulk d + 1
 end
def uptoSmall : (H : Type) → List (DataW H) → Bool := fun _ ds => decide (uptoBulkAll ds ≤ 1048576)
def OpenSpec.upto (s : _root_.Go.ChangeSpec) : _root_.Go.OpenSpec := { _root_.Go.OpenSpec.ofChange s with cond := some uptoSmall }

/-- 'transomlaw15.TidMakes', WHERE WHAT IT READS IS OF BULK AT MOST 1048576: true; the input reads as it did. -/
def tidMakesUptoRow : OpenClaim := { program := "ytjfilonjmpfkfaa", sum := "a7bc030a393e5f38b21a8947e0968394f91ed92e2fff7cd806b3d8fe733f2b53", func := "transom/transomlaw15.TidMakes", spec := "tidMakes", apart := false, narrowed := true }
def TidMakesUptoSaid : Prop := tidMakesUptoRow.holds Try.pinned (OpenSpec.upto tidMakesSpec)

/-- 'transomlaw15.TidBits', WHERE WHAT IT READS IS OF BULK AT MOST 1048576: true; the input reads as it did. -/
def tidBitsUptoRow : OpenClaim := { program := "ytjfilonjmpfkfaa", sum := "a7bc030a393e5f38b21a8947e0968394f91ed92e2fff7cd806b3d8fe733f2b53", func := "transom/transomlaw15.TidBits", spec := "tidBits", apart := false, narrowed := true }
def TidBitsUptoSaid : Prop := tidBitsUptoRow.holds Try.pinned (OpenSpec.upto tidBitsSpec)

/-- 'transomlaw15.TidNexts', WHERE WHAT IT READS IS OF BULK AT MOST 1048576: true; the input reads as it did. -/
def tidNextsUptoRow : OpenClaim := { program := "ytjfilonjmpfkfaa", sum := "a7bc030a393e5f38b21a8947e0968394f91ed92e2fff7cd806b3d8fe733f2b53", func := "transom/transomlaw15.TidNexts", spec := "tidNexts", apart := false, narrowed := true }
def TidNextsUptoSaid : Prop := tidNextsUptoRow.holds Try.pinned (OpenSpec.upto tidNextsSpec)

/-- 'transomlaw15.TidBack', WHERE WHAT IT READS IS OF BULK AT MOST 1048576: true; the input reads as it did. -/
def tidBackUptoRow : OpenClaim := { program := "ytjfilonjmpfkfaa", sum := "a7bc030a393e5f38b21a8947e0968394f91ed92e2fff7cd806b3d8fe733f2b53", func := "transom/transomlaw15.TidBack", spec := "tidBack", apart := false, narrowed := true }
def TidBackUptoSaid : Prop := tidBackUptoRow.holds Try.pinned (OpenSpec.upto tidBackSpec)

/-- 'transomlaw15.TidRises', WHERE WHAT IT READS IS OF BULK AT MOST 1048576: true; the input reads as it did. -/
def tidRisesUptoRow : OpenClaim := { program := "ytjfilonjmpfkfaa", sum := "a7bc030a393e5f38b21a8947e0968394f91ed92e2fff7cd806b3d8fe733f2b53", func := "transom/transomlaw15.TidRises", spec := "tidRises", apart := false, narrowed := true }
def TidRisesUptoSaid : Prop := tidRisesUptoRow.holds Try.pinned (OpenSpec.upto tidRisesSpec)

end Rows
end Go.Proofs.Ytjfilonjmpfkfaa
