/- A text of this claim; no condition. -/
-- WALKS of Node: by print.py over stand-ins for what it does not take, and my own blocks (mp.py). Lean checks them.
import Derived.Test.YtglbcfkmaamhaaaBQNodex0
import Derived.Test.YtglbcfkmaamhaaaBQNodex10
import Derived.Test.YtglbcfkmaamhaaaBQNodex11
namespace Go.Proofs.Ytglbcfkmaamhaaa.PNode
open Go.RowKit Go.Proofs.YtglbcfkmaamhaaaW.PrintWords Go.Proofs.YtglbcfkmaamhaaaW.PrintLast Go.Proofs.YtglbcfkmaamhaaaW.PrintMore
attribute [local go_sem] max2_int min2_int max_two min_two max_three min_three max_four min_four Less.str_leq Less.str_gtr Less.str_geq   -- for this text's walks alone
set_option linter.unusedVariables false
set_option linter.unusedSimpArgs false

/-! ### transomref17_texts: function 98 -/
/-! ### transomref17_refs: function 99 -/
/-! ### transomref17_Put: function 43 -/
/-! ### transomref17_lessText: function 100 -/
/-! ### transomref17_lessRef: function 101 -/
end Go.Proofs.Ytglbcfkmaamhaaa.PNode

