-- Written by this claim's own program over the kit's print.
import Derived.Test.YtjinmcgcbbbbhaaHSpreadx0
import Derived.Test.YtjinmcgcbbbbhaaHSpreadx1
import Derived.Test.YtjinmcgcbbbbhaaHSpreadx2
import Derived.Test.YtjinmcgcbbbbhaaHSpreadx3
import Derived.Test.YtjinmcgcbbbbhaaHSpreadx4
import Derived.Test.YtjinmcgcbbbbhaaHSpreadx5
import Derived.Test.YtjinmcgcbbbbhaaHSpreadx6
namespace Go.Proofs.Ytjinmcgcbbbbhaa.HSpread
open Go.RowKit Go.Proofs.YtjinmcgcbbbbhaaW.PrintWords Go.Proofs.YtjinmcgcbbbbhaaW.PrintLast Go.Proofs.YtjinmcgcbbbbhaaW.PrintMore
attribute [local go_sem] max2_int min2_int max_two min_two max_three min_three max_four min_four   -- for this text's walks alone
set_option linter.unusedVariables false
set_option linter.unusedSimpArgs false

end Go.Proofs.Ytjinmcgcbbbbhaa.HSpread
