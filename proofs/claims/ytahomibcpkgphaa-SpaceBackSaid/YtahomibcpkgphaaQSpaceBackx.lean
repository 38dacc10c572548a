-- WALKS of SpaceBack: by print.py over stand-ins for what it does not take, and my own blocks (mp.py). Lean checks them.
import Derived.Test.YtahomibcpkgphaaQSpaceBackx0
import Derived.Test.YtahomibcpkgphaaQSpaceBackx1
import Derived.Test.YtahomibcpkgphaaQSpaceBackx2
import Derived.Test.YtahomibcpkgphaaQSpaceBackx3
import Derived.Test.YtahomibcpkgphaaQSpaceBackx4
namespace Go.Proofs.Ytahomibcpkgphaa.PSpaceBack
open Go.RowKit Go.Proofs.YtahomibcpkgphaaW.PrintWords Go.Proofs.YtahomibcpkgphaaW.PrintLast Go.Proofs.YtahomibcpkgphaaW.PrintMore
attribute [local go_sem] max2_int min2_int max_two min_two max_three min_three max_four min_four   -- for this text's walks alone
set_option linter.unusedVariables false
set_option linter.unusedSimpArgs false

end Go.Proofs.Ytahomibcpkgphaa.PSpaceBack
