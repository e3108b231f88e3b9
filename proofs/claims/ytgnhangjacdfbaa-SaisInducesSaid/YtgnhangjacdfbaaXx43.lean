-- Printed by wip/xprint.py of this repo (a wrapper of the session's own round the print).
import Derived.Test.YtgnhangjacdfbaaXx0
namespace Go.Proofs.Ytgnhangjacdfbaa.X
open Go.RowKit Go.Proofs.YtgnhangjacdfbaaW.PrintWords Go.Proofs.YtgnhangjacdfbaaW.PrintLast Go.Proofs.YtgnhangjacdfbaaW.PrintMore
attribute [local go_sem] max2_int min2_int max_two min_two max_three min_three max_four min_four   -- for this text's walks alone
set_option linter.unusedVariables false
set_option linter.unusedSimpArgs false

-- BY HAND: function 41 (slices_Sort_int_int)

end Go.Proofs.Ytgnhangjacdfbaa.X
