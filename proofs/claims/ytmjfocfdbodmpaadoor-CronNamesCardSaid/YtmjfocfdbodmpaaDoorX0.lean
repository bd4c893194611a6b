/- The functions of the program as plain Lean functions, and the walks that show that the Go text answers so: written by a program (xprint.py) out of the translation; conditions: none beyond those that each theorem names. -/
import Derived.Test.YtmjfocfdbodmpaaDoorProg
import Derived.Below
import Derived.Deep.Draws
import Derived.Deep.AppendLies
import Derived.Maps.AppendAt
import Derived.OwnWalk
import Derived.Laws.BytesArg
import Derived.Laws.MakeOwn
import Derived.Laws.OwnMore
import Derived.Deep.OwnRows
import Derived.Tactics
import Derived.Lib.ConvBytes
import Derived.Laws.Slices
import Derived.WalkKit
import Derived.KernelRfl
import Derived.RowKit3
import Derived.Deep.LoopGhost
import Derived.Deep.QuietTactic
import Derived.BigQuiet
import Derived.WideLaws
import Derived.Deep.DeepCutAuto
import Derived.Deep.CutBlock
import Derived.Deep.RegionHeld3
import Derived.Laws.Rows
import Derived.Lib.AppendStr
import Derived.ArgAppend
import Derived.Laws.IdiomCopy
import Derived.OrdersHeld
import Derived.Laws.BitsLemmas
import Derived.RowKit
import Derived.Test.YtmjfocfdbodmpaaDoorShelf
import Derived.Test.YtmjfocfdbodmpaaDoorGBase
import Derived.Maps.OwnSet
import Derived.Maps.OwnOps
import Derived.BigRegion
import Derived.RegionTactic
import Derived.Deep.RegionHeld3
import Derived.Test.YtmjfocfdbodmpaaDoorWWords
import Derived.Test.YtmjfocfdbodmpaaDoorWLast
import Derived.Test.YtmjfocfdbodmpaaDoorWTab
import Derived.Test.YtmjfocfdbodmpaaDoorWFour
import Derived.Test.YtmjfocfdbodmpaaDoorWQPut
import Derived.Test.YtmjfocfdbodmpaaDoorWApart
import Derived.Test.YtmjfocfdbodmpaaDoorWArr
import Derived.Test.YtmjfocfdbodmpaaDoorWZeros
import Derived.Test.YtmjfocfdbodmpaaDoorWFoot
import Derived.Test.YtmjfocfdbodmpaaDoorWKept
import Derived.Test.YtmjfocfdbodmpaaDoorWShare
import Derived.Test.YtmjfocfdbodmpaaDoorWN
import Derived.Test.YtmjfocfdbodmpaaDoorWFootNe
import Derived.Test.YtmjfocfdbodmpaaDoorWAt
import Derived.Test.YtmjfocfdbodmpaaDoorWEqStruct
import Derived.Test.YtmjfocfdbodmpaaDoorWRepsOne
import Derived.Test.YtmjfocfdbodmpaaDoorWInv
import Derived.Test.YtmjfocfdbodmpaaDoorWInvWords
import Derived.Test.YtmjfocfdbodmpaaDoorWGuard
import Derived.Test.YtmjfocfdbodmpaaDoorWNEv
import Derived.Test.YtmjfocfdbodmpaaDoorWMore
namespace Go.Proofs.YtmjfocfdbodmpaaDoor.X
open Go.RowKit Go.Proofs.YtmjfocfdbodmpaaDoorW.PrintWords Go.Proofs.YtmjfocfdbodmpaaDoorW.PrintLast Go.Proofs.YtmjfocfdbodmpaaDoorW.PrintMore
attribute [local go_sem] max2_int min2_int max_two min_two max_three min_three max_four min_four   -- for this text's walks alone
set_option linter.unusedVariables false
set_option linter.unusedSimpArgs false



def errW : Option Int → Value
  | none => .nilIface
  | some c => .iface 0 (.int .i64 c)
theorem errW_none : errW none = .nilIface := rfl
theorem errW_some (c : Int) : errW (some c) = .iface 0 (.int .i64 c) := rfl

theorem info3 : (Tryd.prog.info? 3).map (fun i => (i.zero, i.size, i.bytes)) = some (some (.int .i64 0), 1, 8) := by kernel_rfl
theorem info5 : (Tryd.prog.info? 5).map (fun i => (i.zero, i.size, i.bytes)) = some (some (.int .u8 0), 1, 1) := by kernel_rfl
theorem info9 : (Tryd.prog.info? 9).map (fun i => (i.zero, i.size, i.bytes)) = some (some (.string ⟨#[]⟩), 1, 16) := by kernel_rfl
-- the values' own types

end Go.Proofs.YtmjfocfdbodmpaaDoor.X
