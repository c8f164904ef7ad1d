/- Printed by a program of the session's own, out of the translation. -/
import Derived.Test.YtkchcihglpcmiaaProg
import Derived.Below
import Derived.Deep.Draws
import Derived.Deep.AppendLies
import Derived.Maps.AppendAt
import Derived.OwnWalk
import Derived.Laws.BytesArg
import Derived.Laws.MakeOwn
import Derived.Laws.OwnMore
import Derived.Deep.OwnRows
import Derived.Tactics
import Derived.Lib.ConvBytes
import Derived.Laws.Slices
import Derived.WalkKit
import Derived.KernelRfl
import Derived.RowKit3
import Derived.Deep.LoopGhost
import Derived.Deep.QuietTactic
import Derived.BigQuiet
import Derived.WideLaws
import Derived.Deep.DeepCutAuto
import Derived.Deep.CutBlock
import Derived.Deep.RegionHeld3
import Derived.Laws.Rows
import Derived.Lib.AppendStr
import Derived.ArgAppend
import Derived.Laws.IdiomCopy
import Derived.OrdersHeld
import Derived.Laws.BitsLemmas
import Derived.RowKit
import Derived.Test.YtkchcihglpcmiaaWrit
import Derived.Test.YtkchcihglpcmiaaWWords
import Derived.Test.YtkchcihglpcmiaaWLast
import Derived.Test.YtkchcihglpcmiaaWTab
import Derived.Test.YtkchcihglpcmiaaWFour
import Derived.Test.YtkchcihglpcmiaaWQPut
import Derived.Test.YtkchcihglpcmiaaWApart
import Derived.Test.YtkchcihglpcmiaaWArr
import Derived.Test.YtkchcihglpcmiaaWZeros
import Derived.Test.YtkchcihglpcmiaaWFoot
import Derived.Test.YtkchcihglpcmiaaWKept
import Derived.Test.YtkchcihglpcmiaaWShare
import Derived.Test.YtkchcihglpcmiaaWN
import Derived.Test.YtkchcihglpcmiaaWFootNe
import Derived.Test.YtkchcihglpcmiaaWAt
import Derived.Test.YtkchcihglpcmiaaWEqStruct
import Derived.Test.YtkchcihglpcmiaaWRepsOne
import Derived.Test.YtkchcihglpcmiaaWInv
import Derived.Test.YtkchcihglpcmiaaWInvWords
import Derived.Test.YtkchcihglpcmiaaWGuard
import Derived.Test.YtkchcihglpcmiaaWNEv
import Derived.Test.YtkchcihglpcmiaaWMore
import Derived.Test.YtkchcihglpcmiaaWSized
namespace Go.Proofs.Ytkchcihglpcmiaa.PLk
open Go.RowKit Go.Proofs.YtkchcihglpcmiaaW.PrintWords Go.Proofs.YtkchcihglpcmiaaW.PrintLast Go.Proofs.YtkchcihglpcmiaaW.PrintMore
attribute [local go_sem] max2_int min2_int max_two min_two max_three min_three max_four min_four   -- for this text's walks alone
set_option linter.unusedVariables false
set_option linter.unusedSimpArgs false



def errW : Option Int → Value
  | none => .nilIface
  | some c => .iface 59 (.int .i64 c)
theorem errW_none : errW none = .nilIface := rfl
theorem errW_some (c : Int) : errW (some c) = .iface 59 (.int .i64 c) := rfl

-- the values' own types

end Go.Proofs.Ytkchcihglpcmiaa.PLk
