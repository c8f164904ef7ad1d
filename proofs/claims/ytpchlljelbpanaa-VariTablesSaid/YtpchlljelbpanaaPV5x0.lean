/- Printed by a program of the session's own, out of the translation. -/
import Derived.Test.YtpchlljelbpanaaProg
import Derived.Below
import Derived.Deep.Draws
import Derived.Deep.AppendLies
import Derived.Maps.AppendAt
import Derived.OwnWalk
import Derived.Laws.BytesArg
import Derived.Laws.MakeOwn
import Derived.Laws.OwnMore
import Derived.Deep.OwnRows
import Derived.Tactics
import Derived.Lib.ConvBytes
import Derived.Laws.Slices
import Derived.WalkKit
import Derived.KernelRfl
import Derived.RowKit3
import Derived.Deep.LoopGhost
import Derived.Deep.QuietTactic
import Derived.BigQuiet
import Derived.WideLaws
import Derived.Deep.DeepCutAuto
import Derived.Deep.CutBlock
import Derived.Deep.RegionHeld3
import Derived.Laws.Rows
import Derived.Lib.AppendStr
import Derived.ArgAppend
import Derived.Laws.IdiomCopy
import Derived.OrdersHeld
import Derived.Laws.BitsLemmas
import Derived.RowKit
import Derived.Test.YtpchlljelbpanaaVsize
import Derived.Test.YtpchlljelbpanaaPVariTablesx6
import Derived.Test.YtpchlljelbpanaaWWords
import Derived.Test.YtpchlljelbpanaaWLast
import Derived.Test.YtpchlljelbpanaaWTab
import Derived.Test.YtpchlljelbpanaaWFour
import Derived.Test.YtpchlljelbpanaaWQPut
import Derived.Test.YtpchlljelbpanaaWApart
import Derived.Test.YtpchlljelbpanaaWArr
import Derived.Test.YtpchlljelbpanaaWZeros
import Derived.Test.YtpchlljelbpanaaWFoot
import Derived.Test.YtpchlljelbpanaaWKept
import Derived.Test.YtpchlljelbpanaaWShare
import Derived.Test.YtpchlljelbpanaaWN
import Derived.Test.YtpchlljelbpanaaWFootNe
import Derived.Test.YtpchlljelbpanaaWAt
import Derived.Test.YtpchlljelbpanaaWEqStruct
import Derived.Test.YtpchlljelbpanaaWRepsOne
import Derived.Test.YtpchlljelbpanaaWInv
import Derived.Test.YtpchlljelbpanaaWInvWords
import Derived.Test.YtpchlljelbpanaaWGuard
import Derived.Test.YtpchlljelbpanaaWNEv
import Derived.Test.YtpchlljelbpanaaWMore
import Derived.Test.YtpchlljelbpanaaWSized
namespace Go.Proofs.Ytpchlljelbpanaa.PV5
open Go.Proofs.Ytpchlljelbpanaa.PVariTables
open Go.RowKit Go.Proofs.YtpchlljelbpanaaW.PrintWords Go.Proofs.YtpchlljelbpanaaW.PrintLast Go.Proofs.YtpchlljelbpanaaW.PrintMore
attribute [local go_sem] max2_int min2_int max_two min_two max_three min_three max_four min_four   -- for this text's walks alone
set_option linter.unusedVariables false
set_option linter.unusedSimpArgs false



def errW : Option Int → Value
  | none => .nilIface
  | some c => .iface 72 (.int .i64 c)
theorem errW_none : errW none = .nilIface := rfl
theorem errW_some (c : Int) : errW (some c) = .iface 72 (.int .i64 c) := rfl

-- the values' own types

end Go.Proofs.Ytpchlljelbpanaa.PV5
