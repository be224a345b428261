/- Walks: printed by a program of this session; nothing here is trusted. -/
import Derived.Test.YtohooogfaeogeaaProg
import Derived.Below
import Derived.Deep.Draws
import Derived.Deep.AppendLies
import Derived.Maps.AppendAt
import Derived.OwnWalk
import Derived.Laws.BytesArg
import Derived.Laws.MakeOwn
import Derived.Laws.OwnMore
import Derived.Deep.OwnRows
import Derived.Tactics
import Derived.Lib.ConvBytes
import Derived.Laws.Slices
import Derived.WalkKit
import Derived.KernelRfl
import Derived.RowKit3
import Derived.Deep.LoopGhost
import Derived.Deep.QuietTactic
import Derived.BigQuiet
import Derived.WideLaws
import Derived.Deep.DeepCutAuto
import Derived.Deep.CutBlock
import Derived.Deep.RegionHeld3
import Derived.Laws.Rows
import Derived.Lib.AppendStr
import Derived.ArgAppend
import Derived.Laws.IdiomCopy
import Derived.OrdersHeld
import Derived.Laws.BitsLemmas
import Derived.RowKit
import Derived.Lib.SliceRun
import Derived.IntWalk
import Derived.Lib.Bytealg
import Derived.Test.YtohooogfaeogeaaBase
import Derived.Test.YtohooogfaeogeaaStrips
import Derived.Deep.DeepCutAuto
import Derived.Laws.EntriesVeiled
import Derived.Test.YtohooogfaeogeaaWWords
import Derived.Test.YtohooogfaeogeaaWLast
import Derived.Test.YtohooogfaeogeaaWTab
import Derived.Test.YtohooogfaeogeaaWFour
import Derived.Test.YtohooogfaeogeaaWQPut
import Derived.Test.YtohooogfaeogeaaWApart
import Derived.Test.YtohooogfaeogeaaWArr
import Derived.Test.YtohooogfaeogeaaWZeros
import Derived.Test.YtohooogfaeogeaaWFoot
import Derived.Test.YtohooogfaeogeaaWKept
import Derived.Test.YtohooogfaeogeaaWShare
import Derived.Test.YtohooogfaeogeaaWN
import Derived.Test.YtohooogfaeogeaaWFootNe
import Derived.Test.YtohooogfaeogeaaWAt
import Derived.Test.YtohooogfaeogeaaWEqStruct
import Derived.Test.YtohooogfaeogeaaWRepsOne
import Derived.Test.YtohooogfaeogeaaWInv
import Derived.Test.YtohooogfaeogeaaWInvWords
import Derived.Test.YtohooogfaeogeaaWGuard
import Derived.Test.YtohooogfaeogeaaWNEv
import Derived.Test.YtohooogfaeogeaaWMore
namespace Go.Proofs.Ytohooogfaeogeaa.QC
open Go.RowKit Go.Proofs.YtohooogfaeogeaaW.PrintWords Go.Proofs.YtohooogfaeogeaaW.PrintLast Go.Proofs.YtohooogfaeogeaaW.PrintMore
attribute [local go_sem] max2_int min2_int max_two min_two max_three min_three max_four min_four   -- for this text's walks alone
set_option linter.unusedVariables false
set_option linter.unusedSimpArgs false



def errW : Option Int → Value
  | none => .nilIface
  | some c => .iface 0 (.int .i64 c)
theorem errW_none : errW none = .nilIface := rfl
theorem errW_some (c : Int) : errW (some c) = .iface 0 (.int .i64 c) := rfl

theorem info2 : (Try.prog.info? 2).map (fun i => (i.zero, i.size, i.bytes)) = some (some (.int .i64 0), 1, 8) := by kernel_rfl
-- the values' own types

end Go.Proofs.Ytohooogfaeogeaa.QC
