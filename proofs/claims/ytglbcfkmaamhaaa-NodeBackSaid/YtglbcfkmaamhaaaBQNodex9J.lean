/- A text of this claim; no condition. -/
-- WALKS: one half of a printed contract (halves.py). Lean checks it.
import Derived.Test.YtglbcfkmaamhaaaBQNodex0
import Derived.Test.YtglbcfkmaamhaaaBQNodex2
import Derived.Test.YtglbcfkmaamhaaaBQNodex3
import Derived.Test.YtglbcfkmaamhaaaBQNodex9Ja
import Derived.Test.YtglbcfkmaamhaaaBQNodex9Jb
namespace Go.Proofs.Ytglbcfkmaamhaaa.PNode
open Go.RowKit Go.Proofs.YtglbcfkmaamhaaaW.PrintWords Go.Proofs.YtglbcfkmaamhaaaW.PrintLast Go.Proofs.YtglbcfkmaamhaaaW.PrintMore
attribute [local go_sem] max2_int min2_int max_two min_two max_three min_three max_four min_four Less.str_leq Less.str_gtr Less.str_geq   -- for this text's walks alone
set_option linter.unusedVariables false
set_option linter.unusedSimpArgs false

set_option maxHeartbeats 8000000 in
set_option maxRecDepth 100000 in
theorem node_Join.calls (k : Nat) (a0_0 : Bool) (a0_1 : Int) (P0_2_ : Nat → Prop) (A0_2 : Option Addr) (c0_2 : Nat) (l0_2 : List ByteArray) (P0_3_ : Nat → Prop) (A0_3 : Option Addr) (c0_3 : Nat) (l0_3 : List (S33)) (a1 : ByteArray) (a2_0 : Bool) (a2_1 : Int) (A2_2 : Option Addr) (c2_2 : Nat) (l2_2 : List ByteArray) (A2_3 : Option Addr) (c2_3 : Nat) (l2_3 : List (S33)) (r1 : Bool) (r2 : Int) (r3 : List ByteArray) (r4 : List (S33)) (w : World) (hs0_2 : Kd.V Kd.string 9 w w.heap.size (fun k_ => P0_2_ k_) (.slice A0_2 l0_2.length c0_2) l0_2) (hs0_3 : Kd.V k33 33 w w.heap.size (fun k_ => P0_3_ k_) (.slice A0_3 l0_3.length c0_3) l0_3) (hr2_2 : Kd.C Kd.string w A2_2 l2_2.length l2_2) (hc2_2 : l2_2.length ≤ c2_2) (hr2_3 : Kd.C k33 w A2_3 l2_3.length l2_3) (hc2_3 : l2_3.length ≤ c2_3) (h : node_Join.f k a0_0 a0_1 l0_2 l0_3 a1 a2_0 a2_1 l2_2 l2_3 = some (r1, r2, r3, r4)) :
  Calls Try.prog 53 #[.agg #[.bool a0_0, .int .i64 a0_1, .slice A0_2 l0_2.length c0_2, .slice A0_3 l0_3.length c0_3], .string a1, .agg #[.bool a2_0, .int .i64 a2_1, .slice A2_2 l2_2.length c2_2, .slice A2_3 l2_3.length c2_3]] w fun e w' => ∃ v2_ v3_ : Value, e = .returned (.agg #[.bool r1, .int .i64 r2, v2_, v3_]) ∧ Kd.V Kd.string 9 w' w.heap.size (fun k_ => ((P0_2_ k_ ∨ P0_3_ k_) ∨ w.heap.size ≤ k_)) v2_ r3 ∧ Kd.V k33 33 w' w.heap.size (fun k_ => ((P0_2_ k_ ∨ P0_3_ k_) ∨ w.heap.size ≤ k_)) v3_ r4 ∧ Below w.heap.size w w' := by
 by_cases hlf : a0_0 = true
 ·exact node_Join.callsL k a0_0 a0_1 P0_2_ A0_2 c0_2 l0_2 P0_3_ A0_3 c0_3 l0_3 a1 a2_0 a2_1 A2_2 c2_2 l2_2 A2_3 c2_3 l2_3 r1 r2 r3 r4 w hs0_2 hs0_3 hr2_2 hc2_2 hr2_3 hc2_3 h ⟨hlf⟩
 ·exact node_Join.callsN k a0_0 a0_1 P0_2_ A0_2 c0_2 l0_2 P0_3_ A0_3 c0_3 l0_3 a1 a2_0 a2_1 A2_2 c2_2 l2_2 A2_3 c2_3 l2_3 r1 r2 r3 r4 w hs0_2 hs0_3 hr2_2 hc2_2 hr2_3 hc2_3 h ⟨hlf⟩

end Go.Proofs.Ytglbcfkmaamhaaa.PNode

