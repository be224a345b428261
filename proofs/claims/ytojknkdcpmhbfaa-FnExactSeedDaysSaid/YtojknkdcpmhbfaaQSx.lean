/- Walks: printed by a program of this session; nothing here is trusted. -/
import Derived.Test.YtojknkdcpmhbfaaQSx0
import Derived.Test.YtojknkdcpmhbfaaQSx1
import Derived.Test.YtojknkdcpmhbfaaQSx2
import Derived.Test.YtojknkdcpmhbfaaQSx3
import Derived.Test.YtojknkdcpmhbfaaQSx4
namespace Go.Proofs.Ytojknkdcpmhbfaa.QS
open Go.RowKit Go.Proofs.YtojknkdcpmhbfaaW.PrintWords Go.Proofs.YtojknkdcpmhbfaaW.PrintLast Go.Proofs.YtojknkdcpmhbfaaW.PrintMore
attribute [local go_sem] max2_int min2_int max_two min_two max_three min_three max_four min_four   -- for this text's walks alone
set_option linter.unusedVariables false
set_option linter.unusedSimpArgs false

end Go.Proofs.Ytojknkdcpmhbfaa.QS
