/- Walks: printed by a program of this session; nothing here is trusted. -/
import Derived.Test.YtoogoahoeocofaaQFx0
import Derived.Test.YtoogoahoeocofaaQFx1
import Derived.Test.YtoogoahoeocofaaQFx2
import Derived.Test.YtoogoahoeocofaaQFx3
import Derived.Test.YtoogoahoeocofaaQFx4
import Derived.Test.YtoogoahoeocofaaQFx5
namespace Go.Proofs.Ytoogoahoeocofaa.QF
open Go.RowKit Go.Proofs.YtoogoahoeocofaaW.PrintWords Go.Proofs.YtoogoahoeocofaaW.PrintLast Go.Proofs.YtoogoahoeocofaaW.PrintMore
attribute [local go_sem] max2_int min2_int max_two min_two max_three min_three max_four min_four   -- for this text's walks alone
set_option linter.unusedVariables false
set_option linter.unusedSimpArgs false

end Go.Proofs.Ytoogoahoeocofaa.QF
