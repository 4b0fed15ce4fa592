import Derived.Test.YtnagecfpbkffpaaDoorPx0
import Derived.Test.YtnagecfpbkffpaaDoorPx11
import Derived.Test.YtnagecfpbkffpaaDoorPx12
import Derived.Test.YtnagecfpbkffpaaDoorPx13
namespace Go.Proofs.YtnagecfpbkffpaaDoor.P
open Go.RowKit Go.Proofs.YtnagecfpbkffpaaDoorW.PrintWords Go.Proofs.YtnagecfpbkffpaaDoorW.PrintLast Go.Proofs.YtnagecfpbkffpaaDoorW.PrintMore
attribute [local go_sem] max2_int min2_int max_two min_two max_three min_three max_four min_four   -- for this text's walks alone
set_option linter.unusedVariables false
set_option linter.unusedSimpArgs false
end Go.Proofs.YtnagecfpbkffpaaDoor.P
