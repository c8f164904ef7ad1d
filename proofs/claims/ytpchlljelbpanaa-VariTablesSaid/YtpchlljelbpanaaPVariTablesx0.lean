-- PRINTED BY print.sh 35421559b90ae4d0a3588c463048766b98c2df88dd9212a6774a882060cdf62d: not written by this session
import Derived.Test.YtpchlljelbpanaaProg
import Derived.Below
import Derived.Deep.Draws
import Derived.Deep.AppendLies
import Derived.Maps.AppendAt
import Derived.OwnWalk
import Derived.Laws.BytesArg
import Derived.Laws.MakeOwn
import Derived.Laws.OwnMore
import Derived.Deep.OwnRows
import Derived.Tactics
import Derived.Lib.ConvBytes
import Derived.Laws.Slices
import Derived.WalkKit
import Derived.KernelRfl
import Derived.RowKit3
import Derived.Deep.LoopGhost
import Derived.Deep.QuietTactic
import Derived.BigQuiet
import Derived.WideLaws
import Derived.Deep.DeepCutAuto
import Derived.Deep.CutBlock
import Derived.Deep.RegionHeld3
import Derived.Laws.Rows
import Derived.Lib.AppendStr
import Derived.ArgAppend
import Derived.Laws.IdiomCopy
import Derived.OrdersHeld
import Derived.Laws.BitsLemmas
import Derived.RowKit
import Derived.Test.YtpchlljelbpanaaWWords
import Derived.Test.YtpchlljelbpanaaWLast
import Derived.Test.YtpchlljelbpanaaWTab
import Derived.Test.YtpchlljelbpanaaWFour
import Derived.Test.YtpchlljelbpanaaWQPut
import Derived.Test.YtpchlljelbpanaaWApart
import Derived.Test.YtpchlljelbpanaaWArr
import Derived.Test.YtpchlljelbpanaaWZeros
import Derived.Test.YtpchlljelbpanaaWFoot
import Derived.Test.YtpchlljelbpanaaWKept
import Derived.Test.YtpchlljelbpanaaWShare
import Derived.Test.YtpchlljelbpanaaWN
import Derived.Test.YtpchlljelbpanaaWFootNe
import Derived.Test.YtpchlljelbpanaaWAt
import Derived.Test.YtpchlljelbpanaaWEqStruct
import Derived.Test.YtpchlljelbpanaaWRepsOne
import Derived.Test.YtpchlljelbpanaaWInv
import Derived.Test.YtpchlljelbpanaaWInvWords
import Derived.Test.YtpchlljelbpanaaWGuard
import Derived.Test.YtpchlljelbpanaaWNEv
import Derived.Test.YtpchlljelbpanaaWMore
namespace Go.Proofs.Ytpchlljelbpanaa.PVariTables
open Go.RowKit Go.Proofs.YtpchlljelbpanaaW.PrintWords Go.Proofs.YtpchlljelbpanaaW.PrintLast Go.Proofs.YtpchlljelbpanaaW.PrintMore
attribute [local go_sem] max2_int min2_int max_two min_two max_three min_three max_four min_four   -- for this text's walks alone
set_option linter.unusedVariables false
set_option linter.unusedSimpArgs false



def errW : Option Int → Value
  | none => .nilIface
  | some c => .iface 72 (.int .i64 c)
theorem errW_none : errW none = .nilIface := rfl
theorem errW_some (c : Int) : errW (some c) = .iface 72 (.int .i64 c) := rfl

theorem info3 : (Try.prog.info? 3).map (fun i => (i.zero, i.size, i.bytes)) = some (some (.int .i64 0), 1, 8) := by kernel_rfl
theorem info5 : (Try.prog.info? 5).map (fun i => (i.zero, i.size, i.bytes)) = some (some (.int .u8 0), 1, 1) := by kernel_rfl
-- the values' own types

end Go.Proofs.Ytpchlljelbpanaa.PVariTables
