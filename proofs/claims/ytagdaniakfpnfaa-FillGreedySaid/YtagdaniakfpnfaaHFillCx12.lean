-- Written by this claim's own program over the kit's print.
import Derived.Test.YtagdaniakfpnfaaHFillCx0
namespace Go.Proofs.Ytagdaniakfpnfaa.HFillC
open Go.RowKit Go.Proofs.YtagdaniakfpnfaaW.PrintWords Go.Proofs.YtagdaniakfpnfaaW.PrintLast Go.Proofs.YtagdaniakfpnfaaW.PrintMore
attribute [local go_sem] max2_int min2_int max_two min_two max_three min_three max_four min_four   -- for this text's walks alone
set_option linter.unusedVariables false
set_option linter.unusedSimpArgs false

-- NOT PRINTED: function 30 (fill_reach)

end Go.Proofs.Ytagdaniakfpnfaa.HFillC
