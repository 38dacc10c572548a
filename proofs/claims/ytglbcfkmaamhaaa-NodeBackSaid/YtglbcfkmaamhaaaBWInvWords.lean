/- A text of this claim; no condition. -/
import Derived.Test.YtglbcfkmaamhaaaBWInv
import Derived.Test.YtglbcfkmaamhaaaBWFootNe
namespace Go.Proofs.YtglbcfkmaamhaaaW.PrintWords
open Go.RowKit
end Go.Proofs.YtglbcfkmaamhaaaW.PrintWords
namespace Go.Proofs.YtglbcfkmaamhaaaW.PrintLast
section
variable {ops : Array Oper} {a : Act} {o og : Oper} {g : Nat} {t : Tmp} {u : Bool}
end
end Go.Proofs.YtglbcfkmaamhaaaW.PrintLast

