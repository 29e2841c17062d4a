-- Written by a program of this session (wip/print/xprint.py).
import Derived.Test.YtneipehcmmigeaaDoorPFnExactCompleteOfSchurx0
import Derived.Test.YtneipehcmmigeaaDoorPFnExactCompleteOfSchurx6
namespace Go.Proofs.YtneipehcmmigeaaDoor.PFnExactCompleteOfSchur
open Go.RowKit Go.Proofs.YtneipehcmmigeaaDoorW.PrintWords Go.Proofs.YtneipehcmmigeaaDoorW.PrintLast Go.Proofs.YtneipehcmmigeaaDoorW.PrintMore
attribute [local go_sem] max2_int min2_int max_two min_two max_three min_three max_four min_four   -- for this text's walks alone
set_option linter.unusedVariables false
set_option linter.unusedSimpArgs false

end Go.Proofs.YtneipehcmmigeaaDoor.PFnExactCompleteOfSchur
