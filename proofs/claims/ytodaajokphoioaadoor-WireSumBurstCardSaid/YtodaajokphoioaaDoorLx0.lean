-- by a program of this seat (wip/tools/doctor.py, lawtext.py)
import Derived.Test.YtodaajokphoioaaDoorProg
import Derived.Below
import Derived.Deep.Draws
import Derived.Deep.AppendLies
import Derived.Maps.AppendAt
import Derived.OwnWalk
import Derived.Laws.BytesArg
import Derived.Laws.MakeOwn
import Derived.Laws.OwnMore
import Derived.Deep.OwnRows
import Derived.Tactics
import Derived.Lib.ConvBytes
import Derived.Laws.Slices
import Derived.WalkKit
import Derived.KernelRfl
import Derived.RowKit3
import Derived.Deep.LoopGhost
import Derived.Deep.QuietTactic
import Derived.BigQuiet
import Derived.WideLaws
import Derived.Deep.DeepCutAuto
import Derived.Deep.CutBlock
import Derived.Deep.RegionHeld3
import Derived.Laws.Rows
import Derived.Lib.AppendStr
import Derived.ArgAppend
import Derived.Laws.IdiomCopy
import Derived.OrdersHeld
import Derived.Laws.BitsLemmas
import Derived.RowKit
import Derived.Test.YtodaajokphoioaaDoorWWords
import Derived.Test.YtodaajokphoioaaDoorWLast
import Derived.Test.YtodaajokphoioaaDoorWTab
import Derived.Test.YtodaajokphoioaaDoorWFour
import Derived.Test.YtodaajokphoioaaDoorWQPut
import Derived.Test.YtodaajokphoioaaDoorWApart
import Derived.Test.YtodaajokphoioaaDoorWArr
import Derived.Test.YtodaajokphoioaaDoorWZeros
import Derived.Test.YtodaajokphoioaaDoorWFoot
import Derived.Test.YtodaajokphoioaaDoorWKept
import Derived.Test.YtodaajokphoioaaDoorWShare
import Derived.Test.YtodaajokphoioaaDoorWN
import Derived.Test.YtodaajokphoioaaDoorWFootNe
import Derived.Test.YtodaajokphoioaaDoorWAt
import Derived.Test.YtodaajokphoioaaDoorWEqStruct
import Derived.Test.YtodaajokphoioaaDoorWRepsOne
import Derived.Test.YtodaajokphoioaaDoorWInv
import Derived.Test.YtodaajokphoioaaDoorWInvWords
import Derived.Test.YtodaajokphoioaaDoorWGuard
import Derived.Test.YtodaajokphoioaaDoorWNEv
import Derived.Test.YtodaajokphoioaaDoorWMore
import Derived.Test.YtodaajokphoioaaDoorPut
import Derived.Test.YtodaajokphoioaaDoorSum
namespace Go.Proofs.YtodaajokphoioaaDoor.L
open Go.RowKit Go.Proofs.YtodaajokphoioaaDoorW.PrintWords Go.Proofs.YtodaajokphoioaaDoorW.PrintLast Go.Proofs.YtodaajokphoioaaDoorW.PrintMore
attribute [local go_sem] max2_int min2_int max_two min_two max_three min_three max_four min_four   -- for this text's walks alone
set_option linter.unusedVariables false
set_option linter.unusedSimpArgs false



def errW : Option Int → Value
  | none => .nilIface
  | some c => .iface 0 (.int .i64 c)
theorem errW_none : errW none = .nilIface := rfl
theorem errW_some (c : Int) : errW (some c) = .iface 0 (.int .i64 c) := rfl

theorem info3 : (Tryd.prog.info? 3).map (fun i => (i.zero, i.size, i.bytes)) = some (some (.int .i64 0), 1, 8) := by kernel_rfl
theorem info5 : (Tryd.prog.info? 5).map (fun i => (i.zero, i.size, i.bytes)) = some (some (.int .u8 0), 1, 1) := by kernel_rfl
-- the values' own types

end Go.Proofs.YtodaajokphoioaaDoor.L
