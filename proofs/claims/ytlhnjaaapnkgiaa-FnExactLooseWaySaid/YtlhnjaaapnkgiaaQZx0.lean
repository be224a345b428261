/- Walks: printed by a program of this session; nothing here is trusted. -/
import Derived.Test.YtlhnjaaapnkgiaaProg
import Derived.Below
import Derived.Deep.Draws
import Derived.Deep.AppendLies
import Derived.Maps.AppendAt
import Derived.OwnWalk
import Derived.Laws.BytesArg
import Derived.Laws.MakeOwn
import Derived.Laws.OwnMore
import Derived.Deep.OwnRows
import Derived.Tactics
import Derived.Lib.ConvBytes
import Derived.Laws.Slices
import Derived.WalkKit
import Derived.KernelRfl
import Derived.RowKit3
import Derived.Deep.LoopGhost
import Derived.Deep.QuietTactic
import Derived.BigQuiet
import Derived.WideLaws
import Derived.Deep.DeepCutAuto
import Derived.Deep.CutBlock
import Derived.Deep.RegionHeld3
import Derived.Laws.Rows
import Derived.Lib.AppendStr
import Derived.ArgAppend
import Derived.Laws.IdiomCopy
import Derived.OrdersHeld
import Derived.Laws.BitsLemmas
import Derived.RowKit
import Derived.Lib.SliceRun
import Derived.IntWalk
import Derived.Lib.Bytealg
import Derived.Test.YtlhnjaaapnkgiaaWWords
import Derived.Test.YtlhnjaaapnkgiaaWLast
import Derived.Test.YtlhnjaaapnkgiaaWTab
import Derived.Test.YtlhnjaaapnkgiaaWFour
import Derived.Test.YtlhnjaaapnkgiaaWQPut
import Derived.Test.YtlhnjaaapnkgiaaWApart
import Derived.Test.YtlhnjaaapnkgiaaWArr
import Derived.Test.YtlhnjaaapnkgiaaWZeros
import Derived.Test.YtlhnjaaapnkgiaaWFoot
import Derived.Test.YtlhnjaaapnkgiaaWKept
import Derived.Test.YtlhnjaaapnkgiaaWShare
import Derived.Test.YtlhnjaaapnkgiaaWN
import Derived.Test.YtlhnjaaapnkgiaaWFootNe
import Derived.Test.YtlhnjaaapnkgiaaWAt
import Derived.Test.YtlhnjaaapnkgiaaWEqStruct
import Derived.Test.YtlhnjaaapnkgiaaWRepsOne
import Derived.Test.YtlhnjaaapnkgiaaWInv
import Derived.Test.YtlhnjaaapnkgiaaWInvWords
import Derived.Test.YtlhnjaaapnkgiaaWGuard
import Derived.Test.YtlhnjaaapnkgiaaWNEv
import Derived.Test.YtlhnjaaapnkgiaaWMore
namespace Go.Proofs.Ytlhnjaaapnkgiaa.QZ
open Go.RowKit Go.Proofs.YtlhnjaaapnkgiaaW.PrintWords Go.Proofs.YtlhnjaaapnkgiaaW.PrintLast Go.Proofs.YtlhnjaaapnkgiaaW.PrintMore
attribute [local go_sem] max2_int min2_int max_two min_two max_three min_three max_four min_four   -- for this text's walks alone
set_option linter.unusedVariables false
set_option linter.unusedSimpArgs false



def errW : Option Int → Value
  | none => .nilIface
  | some c => .iface 0 (.int .i64 c)
theorem errW_none : errW none = .nilIface := rfl
theorem errW_some (c : Int) : errW (some c) = .iface 0 (.int .i64 c) := rfl

theorem info5 : (Try.prog.info? 5).map (fun i => (i.zero, i.size, i.bytes)) = some (some (.int .u8 0), 1, 1) := by kernel_rfl
-- the values' own types

end Go.Proofs.Ytlhnjaaapnkgiaa.QZ
