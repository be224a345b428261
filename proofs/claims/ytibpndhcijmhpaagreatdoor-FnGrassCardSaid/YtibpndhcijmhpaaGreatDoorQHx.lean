/- Walks: printed by a program of this session; nothing here is trusted. -/
import Derived.Test.YtibpndhcijmhpaaGreatDoorQHx0
import Derived.Test.YtibpndhcijmhpaaGreatDoorQHx1
import Derived.Test.YtibpndhcijmhpaaGreatDoorQHx2
import Derived.Test.YtibpndhcijmhpaaGreatDoorQHx3
import Derived.Test.YtibpndhcijmhpaaGreatDoorQHx4
import Derived.Test.YtibpndhcijmhpaaGreatDoorQHx5
import Derived.Test.YtibpndhcijmhpaaGreatDoorQHx6
import Derived.Test.YtibpndhcijmhpaaGreatDoorQHx7
import Derived.Test.YtibpndhcijmhpaaGreatDoorQHx8
import Derived.Test.YtibpndhcijmhpaaGreatDoorQHx9
import Derived.Test.YtibpndhcijmhpaaGreatDoorQHx10
import Derived.Test.YtibpndhcijmhpaaGreatDoorQHx11
import Derived.Test.YtibpndhcijmhpaaGreatDoorQHx12
namespace Go.Proofs.YtibpndhcijmhpaaGreatDoor.QG
open Go.RowKit Go.Proofs.YtibpndhcijmhpaaGreatDoorW.PrintWords Go.Proofs.YtibpndhcijmhpaaGreatDoorW.PrintLast Go.Proofs.YtibpndhcijmhpaaGreatDoorW.PrintMore
attribute [local go_sem] max2_int min2_int max_two min_two max_three min_three max_four min_four   -- for this text's walks alone
set_option linter.unusedVariables false
set_option linter.unusedSimpArgs false

end Go.Proofs.YtibpndhcijmhpaaGreatDoor.QG
