/- Walks: printed by a program of this session; nothing here is trusted. -/
import Derived.Test.YtkebohpfneiimaaQMx0
import Derived.Test.YtkebohpfneiimaaQMx1
import Derived.Test.YtkebohpfneiimaaQMx2
import Derived.Test.YtkebohpfneiimaaQMx3
import Derived.Test.YtkebohpfneiimaaQMx4
namespace Go.Proofs.Ytkebohpfneiimaa.QM
open Go.RowKit Go.Proofs.YtkebohpfneiimaaW.PrintWords Go.Proofs.YtkebohpfneiimaaW.PrintLast Go.Proofs.YtkebohpfneiimaaW.PrintMore
attribute [local go_sem] max2_int min2_int max_two min_two max_three min_three max_four min_four   -- for this text's walks alone
set_option linter.unusedVariables false
set_option linter.unusedSimpArgs false

end Go.Proofs.Ytkebohpfneiimaa.QM
