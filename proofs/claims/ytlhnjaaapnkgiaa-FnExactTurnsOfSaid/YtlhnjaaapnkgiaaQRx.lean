/- Walks: printed by a program of this session; nothing here is trusted. -/
import Derived.Test.YtlhnjaaapnkgiaaQRx0
import Derived.Test.YtlhnjaaapnkgiaaQRx1
import Derived.Test.YtlhnjaaapnkgiaaQRx2
namespace Go.Proofs.Ytlhnjaaapnkgiaa.QR
open Go.RowKit Go.Proofs.YtlhnjaaapnkgiaaW.PrintWords Go.Proofs.YtlhnjaaapnkgiaaW.PrintLast Go.Proofs.YtlhnjaaapnkgiaaW.PrintMore
attribute [local go_sem] max2_int min2_int max_two min_two max_three min_three max_four min_four   -- for this text's walks alone
set_option linter.unusedVariables false
set_option linter.unusedSimpArgs false

end Go.Proofs.Ytlhnjaaapnkgiaa.QR
