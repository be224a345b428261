/- Walks: printed by a program of this session; nothing here is trusted. -/
import Derived.Test.YtlhnjaaapnkgiaaQZx0
import Derived.Test.YtlhnjaaapnkgiaaQZx1
import Derived.Test.YtlhnjaaapnkgiaaQZx2
namespace Go.Proofs.Ytlhnjaaapnkgiaa.QZ
open Go.RowKit Go.Proofs.YtlhnjaaapnkgiaaW.PrintWords Go.Proofs.YtlhnjaaapnkgiaaW.PrintLast Go.Proofs.YtlhnjaaapnkgiaaW.PrintMore
attribute [local go_sem] max2_int min2_int max_two min_two max_three min_three max_four min_four   -- for this text's walks alone
set_option linter.unusedVariables false
set_option linter.unusedSimpArgs false

end Go.Proofs.Ytlhnjaaapnkgiaa.QZ
