/- Walks: printed by a program of this session; nothing here is trusted. -/
import Derived.Test.YtkebohpfneiimaaDoorQUx0
import Derived.Test.YtkebohpfneiimaaDoorQUx1
import Derived.Test.YtkebohpfneiimaaDoorQUx2
import Derived.Test.YtkebohpfneiimaaDoorQUx3
import Derived.Test.YtkebohpfneiimaaDoorQUx4
namespace Go.Proofs.YtkebohpfneiimaaDoor.QU
open Go.RowKit Go.Proofs.YtkebohpfneiimaaDoorW.PrintWords Go.Proofs.YtkebohpfneiimaaDoorW.PrintLast Go.Proofs.YtkebohpfneiimaaDoorW.PrintMore
attribute [local go_sem] max2_int min2_int max_two min_two max_three min_three max_four min_four   -- for this text's walks alone
set_option linter.unusedVariables false
set_option linter.unusedSimpArgs false

end Go.Proofs.YtkebohpfneiimaaDoor.QU
