-- WALKS of SpaceBack: by print.py over stand-ins for what it does not take, and my own blocks (mp.py). Lean checks them.
import Derived.Laws.BitsLemmas
import Derived.Laws.BitsAllLaws
import Derived.RegionTactic
import Derived.BigRegion
import Derived.Lib.Strings
import Derived.Test.YtahomibcpkgphaaProg
import Derived.Below
import Derived.Deep.Draws
import Derived.Deep.AppendLies
import Derived.Maps.AppendAt
import Derived.OwnWalk
import Derived.Laws.BytesArg
import Derived.Laws.MakeOwn
import Derived.Laws.OwnMore
import Derived.Deep.OwnRows
import Derived.Tactics
import Derived.Lib.ConvBytes
import Derived.Laws.Slices
import Derived.WalkKit
import Derived.KernelRfl
import Derived.RowKit3
import Derived.Deep.LoopGhost
import Derived.Deep.QuietTactic
import Derived.BigQuiet
import Derived.WideLaws
import Derived.Deep.DeepCutAuto
import Derived.Deep.CutBlock
import Derived.Deep.RegionHeld3
import Derived.Laws.Rows
import Derived.Lib.AppendStr
import Derived.ArgAppend
import Derived.Laws.IdiomCopy
import Derived.OrdersHeld
import Derived.Laws.BitsLemmas
import Derived.RowKit
import Derived.Test.YtahomibcpkgphaaWWords
import Derived.Test.YtahomibcpkgphaaWLast
import Derived.Test.YtahomibcpkgphaaWTab
import Derived.Test.YtahomibcpkgphaaWFour
import Derived.Test.YtahomibcpkgphaaWQPut
import Derived.Test.YtahomibcpkgphaaWApart
import Derived.Test.YtahomibcpkgphaaWArr
import Derived.Test.YtahomibcpkgphaaWZeros
import Derived.Test.YtahomibcpkgphaaWFoot
import Derived.Test.YtahomibcpkgphaaWKept
import Derived.Test.YtahomibcpkgphaaWShare
import Derived.Test.YtahomibcpkgphaaWN
import Derived.Test.YtahomibcpkgphaaWFootNe
import Derived.Test.YtahomibcpkgphaaWAt
import Derived.Test.YtahomibcpkgphaaWEqStruct
import Derived.Test.YtahomibcpkgphaaWRepsOne
import Derived.Test.YtahomibcpkgphaaWInv
import Derived.Test.YtahomibcpkgphaaWInvWords
import Derived.Test.YtahomibcpkgphaaWGuard
import Derived.Test.YtahomibcpkgphaaWNEv
import Derived.Test.YtahomibcpkgphaaWMore
namespace Go.Proofs.Ytahomibcpkgphaa.PSpaceBack
open Go.RowKit Go.Proofs.YtahomibcpkgphaaW.PrintWords Go.Proofs.YtahomibcpkgphaaW.PrintLast Go.Proofs.YtahomibcpkgphaaW.PrintMore
attribute [local go_sem] max2_int min2_int max_two min_two max_three min_three max_four min_four   -- for this text's walks alone
set_option linter.unusedVariables false
set_option linter.unusedSimpArgs false



def errW : Option Int → Value
  | none => .nilIface
  | some c => .iface 0 (.int .i64 c)
theorem errW_none : errW none = .nilIface := rfl
theorem errW_some (c : Int) : errW (some c) = .iface 0 (.int .i64 c) := rfl

theorem info5 : (Try.prog.info? 5).map (fun i => (i.zero, i.size, i.bytes)) = some (some (.int .u8 0), 1, 1) := by kernel_rfl
-- the values' own types

end Go.Proofs.Ytahomibcpkgphaa.PSpaceBack
