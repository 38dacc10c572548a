-- WALKS of NamesGone: by print.py over stand-ins for what it does not take, and my own blocks (mp.py). Lean checks them.
import Derived.Lib.ConvBytes
import Derived.Lib.SmallJoins
import Derived.Test.YtacmdkjcmbhgiaaProg
import Derived.Below
import Derived.Deep.Draws
import Derived.Deep.AppendLies
import Derived.Maps.AppendAt
import Derived.OwnWalk
import Derived.Laws.BytesArg
import Derived.Laws.MakeOwn
import Derived.Laws.OwnMore
import Derived.Deep.OwnRows
import Derived.Tactics
import Derived.Lib.ConvBytes
import Derived.Laws.Slices
import Derived.WalkKit
import Derived.KernelRfl
import Derived.RowKit3
import Derived.Deep.LoopGhost
import Derived.Deep.QuietTactic
import Derived.BigQuiet
import Derived.WideLaws
import Derived.Deep.DeepCutAuto
import Derived.Deep.CutBlock
import Derived.Deep.RegionHeld3
import Derived.Laws.Rows
import Derived.Lib.AppendStr
import Derived.ArgAppend
import Derived.Laws.IdiomCopy
import Derived.OrdersHeld
import Derived.Laws.BitsLemmas
import Derived.RowKit
import Derived.Test.YtacmdkjcmbhgiaaWWords
import Derived.Test.YtacmdkjcmbhgiaaWLast
import Derived.Test.YtacmdkjcmbhgiaaWTab
import Derived.Test.YtacmdkjcmbhgiaaWFour
import Derived.Test.YtacmdkjcmbhgiaaWQPut
import Derived.Test.YtacmdkjcmbhgiaaWApart
import Derived.Test.YtacmdkjcmbhgiaaWArr
import Derived.Test.YtacmdkjcmbhgiaaWZeros
import Derived.Test.YtacmdkjcmbhgiaaWFoot
import Derived.Test.YtacmdkjcmbhgiaaWKept
import Derived.Test.YtacmdkjcmbhgiaaWShare
import Derived.Test.YtacmdkjcmbhgiaaWN
import Derived.Test.YtacmdkjcmbhgiaaWFootNe
import Derived.Test.YtacmdkjcmbhgiaaWAt
import Derived.Test.YtacmdkjcmbhgiaaWEqStruct
import Derived.Test.YtacmdkjcmbhgiaaWRepsOne
import Derived.Test.YtacmdkjcmbhgiaaWInv
import Derived.Test.YtacmdkjcmbhgiaaWInvWords
import Derived.Test.YtacmdkjcmbhgiaaWGuard
import Derived.Test.YtacmdkjcmbhgiaaWNEv
import Derived.Test.YtacmdkjcmbhgiaaWMore
namespace Go.Proofs.Ytacmdkjcmbhgiaa.PNamesGone
open Go.RowKit Go.Proofs.YtacmdkjcmbhgiaaW.PrintWords Go.Proofs.YtacmdkjcmbhgiaaW.PrintLast Go.Proofs.YtacmdkjcmbhgiaaW.PrintMore
attribute [local go_sem] max2_int min2_int max_two min_two max_three min_three max_four min_four   -- for this text's walks alone
set_option linter.unusedVariables false
set_option linter.unusedSimpArgs false



def errW : Option Int → Value
  | none => .nilIface
  | some c => .iface 0 (.int .i64 c)
theorem errW_none : errW none = .nilIface := rfl
theorem errW_some (c : Int) : errW (some c) = .iface 0 (.int .i64 c) := rfl

theorem info9 : (Try.prog.info? 9).map (fun i => (i.zero, i.size, i.bytes)) = some (some (.string ⟨#[]⟩), 1, 16) := by kernel_rfl
-- the values' own types

end Go.Proofs.Ytacmdkjcmbhgiaa.PNamesGone
