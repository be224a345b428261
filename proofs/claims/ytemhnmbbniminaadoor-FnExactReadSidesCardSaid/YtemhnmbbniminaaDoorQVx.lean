/- Walks: printed by a program of this session; nothing here is trusted. -/
import Derived.Test.YtemhnmbbniminaaDoorQVx0
import Derived.Test.YtemhnmbbniminaaDoorQVx1
import Derived.Test.YtemhnmbbniminaaDoorQVx2
namespace Go.Proofs.YtemhnmbbniminaaDoor.QV
open Go.RowKit Go.Proofs.YtemhnmbbniminaaDoorW.PrintWords Go.Proofs.YtemhnmbbniminaaDoorW.PrintLast Go.Proofs.YtemhnmbbniminaaDoorW.PrintMore
attribute [local go_sem] max2_int min2_int max_two min_two max_three min_three max_four min_four   -- for this text's walks alone
set_option linter.unusedVariables false
set_option linter.unusedSimpArgs false

end Go.Proofs.YtemhnmbbniminaaDoor.QV
