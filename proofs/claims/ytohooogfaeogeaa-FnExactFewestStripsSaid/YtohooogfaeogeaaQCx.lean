/- Walks: printed by a program of this session; nothing here is trusted. -/
import Derived.Test.YtohooogfaeogeaaQCx0
import Derived.Test.YtohooogfaeogeaaQCx1
import Derived.Test.YtohooogfaeogeaaQCx2
import Derived.Test.YtohooogfaeogeaaQCx3
import Derived.Test.YtohooogfaeogeaaQCx4
import Derived.Test.YtohooogfaeogeaaQCx5
namespace Go.Proofs.Ytohooogfaeogeaa.QC
open Go.RowKit Go.Proofs.YtohooogfaeogeaaW.PrintWords Go.Proofs.YtohooogfaeogeaaW.PrintLast Go.Proofs.YtohooogfaeogeaaW.PrintMore
attribute [local go_sem] max2_int min2_int max_two min_two max_three min_three max_four min_four   -- for this text's walks alone
set_option linter.unusedVariables false
set_option linter.unusedSimpArgs false

end Go.Proofs.Ytohooogfaeogeaa.QC
