/- Walks: printed by a program of this session; nothing here is trusted. -/
import Derived.Test.YtkebohpfneiimaaQFx0
import Derived.Test.YtkebohpfneiimaaQFx1
import Derived.Test.YtkebohpfneiimaaQFx2
import Derived.Test.YtkebohpfneiimaaQFx3
import Derived.Test.YtkebohpfneiimaaQFx4
import Derived.Test.YtkebohpfneiimaaQFx5
namespace Go.Proofs.Ytkebohpfneiimaa.QF
open Go.RowKit Go.Proofs.YtkebohpfneiimaaW.PrintWords Go.Proofs.YtkebohpfneiimaaW.PrintLast Go.Proofs.YtkebohpfneiimaaW.PrintMore
attribute [local go_sem] max2_int min2_int max_two min_two max_three min_three max_four min_four   -- for this text's walks alone
set_option linter.unusedVariables false
set_option linter.unusedSimpArgs false

end Go.Proofs.Ytkebohpfneiimaa.QF
