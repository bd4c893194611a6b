/- The functions of the program as plain Lean functions, and the walks that show that the Go text answers so: written by a program (xprint.py) out of the translation; conditions: none beyond those that each theorem names. -/
import Derived.Test.YteeemnnbgahnkaaProg
import Derived.Below
import Derived.Deep.Draws
import Derived.Deep.AppendLies
import Derived.Maps.AppendAt
import Derived.OwnWalk
import Derived.Laws.BytesArg
import Derived.Laws.MakeOwn
import Derived.Laws.OwnMore
import Derived.Deep.OwnRows
import Derived.Tactics
import Derived.Lib.ConvBytes
import Derived.Laws.Slices
import Derived.WalkKit
import Derived.KernelRfl
import Derived.RowKit3
import Derived.Deep.LoopGhost
import Derived.Deep.QuietTactic
import Derived.BigQuiet
import Derived.WideLaws
import Derived.Deep.DeepCutAuto
import Derived.Deep.CutBlock
import Derived.Deep.RegionHeld3
import Derived.Laws.Rows
import Derived.Lib.AppendStr
import Derived.ArgAppend
import Derived.Laws.IdiomCopy
import Derived.OrdersHeld
import Derived.Laws.BitsLemmas
import Derived.RowKit
import Derived.Test.YteeemnnbgahnkaaWWords
import Derived.Test.YteeemnnbgahnkaaWLast
import Derived.Test.YteeemnnbgahnkaaWTab
import Derived.Test.YteeemnnbgahnkaaWFour
import Derived.Test.YteeemnnbgahnkaaWQPut
import Derived.Test.YteeemnnbgahnkaaWApart
import Derived.Test.YteeemnnbgahnkaaWArr
import Derived.Test.YteeemnnbgahnkaaWZeros
import Derived.Test.YteeemnnbgahnkaaWFoot
import Derived.Test.YteeemnnbgahnkaaWKept
import Derived.Test.YteeemnnbgahnkaaWShare
import Derived.Test.YteeemnnbgahnkaaWN
import Derived.Test.YteeemnnbgahnkaaWFootNe
import Derived.Test.YteeemnnbgahnkaaWAt
import Derived.Test.YteeemnnbgahnkaaWEqStruct
import Derived.Test.YteeemnnbgahnkaaWRepsOne
import Derived.Test.YteeemnnbgahnkaaWInv
import Derived.Test.YteeemnnbgahnkaaWInvWords
import Derived.Test.YteeemnnbgahnkaaWGuard
import Derived.Test.YteeemnnbgahnkaaWNEv
import Derived.Test.YteeemnnbgahnkaaWMore
namespace Go.Proofs.Yteeemnnbgahnkaa.X
open Go.RowKit Go.Proofs.YteeemnnbgahnkaaW.PrintWords Go.Proofs.YteeemnnbgahnkaaW.PrintLast Go.Proofs.YteeemnnbgahnkaaW.PrintMore
attribute [local go_sem] max2_int min2_int max_two min_two max_three min_three max_four min_four   -- for this text's walks alone
set_option linter.unusedVariables false
set_option linter.unusedSimpArgs false



def errW : Option Int → Value
  | none => .nilIface
  | some c => .iface 0 (.int .i64 c)
theorem errW_none : errW none = .nilIface := rfl
theorem errW_some (c : Int) : errW (some c) = .iface 0 (.int .i64 c) := rfl

-- the values' own types

end Go.Proofs.Yteeemnnbgahnkaa.X
