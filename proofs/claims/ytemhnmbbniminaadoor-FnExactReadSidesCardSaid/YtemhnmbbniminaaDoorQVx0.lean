/- Walks: printed by a program of this session; nothing here is trusted. -/
import Derived.Test.YtemhnmbbniminaaDoorProg
import Derived.Below
import Derived.Deep.Draws
import Derived.Deep.AppendLies
import Derived.Maps.AppendAt
import Derived.OwnWalk
import Derived.Laws.BytesArg
import Derived.Laws.MakeOwn
import Derived.Laws.OwnMore
import Derived.Deep.OwnRows
import Derived.Tactics
import Derived.Lib.ConvBytes
import Derived.Laws.Slices
import Derived.WalkKit
import Derived.KernelRfl
import Derived.RowKit3
import Derived.Deep.LoopGhost
import Derived.Deep.QuietTactic
import Derived.BigQuiet
import Derived.WideLaws
import Derived.Deep.DeepCutAuto
import Derived.Deep.CutBlock
import Derived.Deep.RegionHeld3
import Derived.Laws.Rows
import Derived.Lib.AppendStr
import Derived.ArgAppend
import Derived.Laws.IdiomCopy
import Derived.OrdersHeld
import Derived.Laws.BitsLemmas
import Derived.RowKit
import Derived.Lib.SliceRun
import Derived.IntWalk
import Derived.Lib.Bytealg
import Derived.Test.YtemhnmbbniminaaDoorShelf
import Derived.Test.YtemhnmbbniminaaDoorGlob
import Derived.Lib.SplitLaws
import Derived.Lib.AtoiErrMem
import Derived.Test.YtemhnmbbniminaaDoorWWords
import Derived.Test.YtemhnmbbniminaaDoorWLast
import Derived.Test.YtemhnmbbniminaaDoorWTab
import Derived.Test.YtemhnmbbniminaaDoorWFour
import Derived.Test.YtemhnmbbniminaaDoorWQPut
import Derived.Test.YtemhnmbbniminaaDoorWApart
import Derived.Test.YtemhnmbbniminaaDoorWArr
import Derived.Test.YtemhnmbbniminaaDoorWZeros
import Derived.Test.YtemhnmbbniminaaDoorWFoot
import Derived.Test.YtemhnmbbniminaaDoorWKept
import Derived.Test.YtemhnmbbniminaaDoorWShare
import Derived.Test.YtemhnmbbniminaaDoorWN
import Derived.Test.YtemhnmbbniminaaDoorWFootNe
import Derived.Test.YtemhnmbbniminaaDoorWAt
import Derived.Test.YtemhnmbbniminaaDoorWEqStruct
import Derived.Test.YtemhnmbbniminaaDoorWRepsOne
import Derived.Test.YtemhnmbbniminaaDoorWInv
import Derived.Test.YtemhnmbbniminaaDoorWInvWords
import Derived.Test.YtemhnmbbniminaaDoorWGuard
import Derived.Test.YtemhnmbbniminaaDoorWNEv
import Derived.Test.YtemhnmbbniminaaDoorWMore
namespace Go.Proofs.YtemhnmbbniminaaDoor.QV
open Go.RowKit Go.Proofs.YtemhnmbbniminaaDoorW.PrintWords Go.Proofs.YtemhnmbbniminaaDoorW.PrintLast Go.Proofs.YtemhnmbbniminaaDoorW.PrintMore
attribute [local go_sem] max2_int min2_int max_two min_two max_three min_three max_four min_four   -- for this text's walks alone
set_option linter.unusedVariables false
set_option linter.unusedSimpArgs false



def errW : Option Int → Value
  | none => .nilIface
  | some c => .iface 0 (.int .i64 c)
theorem errW_none : errW none = .nilIface := rfl
theorem errW_some (c : Int) : errW (some c) = .iface 0 (.int .i64 c) := rfl

theorem info5 : (Tryd.prog.info? 5).map (fun i => (i.zero, i.size, i.bytes)) = some (some (.int .u8 0), 1, 1) := by kernel_rfl
theorem info9 : (Tryd.prog.info? 9).map (fun i => (i.zero, i.size, i.bytes)) = some (some (.string ⟨#[]⟩), 1, 16) := by kernel_rfl
-- the values' own types

end Go.Proofs.YtemhnmbbniminaaDoor.QV
