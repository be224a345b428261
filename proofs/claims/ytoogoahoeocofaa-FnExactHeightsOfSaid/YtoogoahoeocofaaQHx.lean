/- Walks: printed by a program of this session; nothing here is trusted. -/
import Derived.Test.YtoogoahoeocofaaQHx0
import Derived.Test.YtoogoahoeocofaaQHx1
import Derived.Test.YtoogoahoeocofaaQHx2
import Derived.Test.YtoogoahoeocofaaQHx3
import Derived.Test.YtoogoahoeocofaaQHx4
import Derived.Test.YtoogoahoeocofaaQHx5
import Derived.Test.YtoogoahoeocofaaQHx6
namespace Go.Proofs.Ytoogoahoeocofaa.QH
open Go.RowKit Go.Proofs.YtoogoahoeocofaaW.PrintWords Go.Proofs.YtoogoahoeocofaaW.PrintLast Go.Proofs.YtoogoahoeocofaaW.PrintMore
attribute [local go_sem] max2_int min2_int max_two min_two max_three min_three max_four min_four   -- for this text's walks alone
set_option linter.unusedVariables false
set_option linter.unusedSimpArgs false

end Go.Proofs.Ytoogoahoeocofaa.QH
