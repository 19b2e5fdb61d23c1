-- PRINTED BY print.sh 35421559b90ae4d0a3588c463048766b98c2df88dd9212a6774a882060cdf62d: not written by this session
import Derived.Test.YtcaijkkinkdfjaaProg
import Derived.Below
import Derived.Deep.Draws
import Derived.Deep.AppendLies
import Derived.Maps.AppendAt
import Derived.OwnWalk
import Derived.Laws.BytesArg
import Derived.Laws.MakeOwn
import Derived.Laws.OwnMore
import Derived.Deep.OwnRows
import Derived.Tactics
import Derived.Lib.ConvBytes
import Derived.Laws.Slices
import Derived.WalkKit
import Derived.KernelRfl
import Derived.RowKit3
import Derived.Deep.LoopGhost
import Derived.Deep.QuietTactic
import Derived.BigQuiet
import Derived.WideLaws
import Derived.Deep.DeepCutAuto
import Derived.Deep.CutBlock
import Derived.Deep.RegionHeld3
import Derived.Laws.Rows
import Derived.Lib.AppendStr
import Derived.ArgAppend
import Derived.Laws.IdiomCopy
import Derived.OrdersHeld
import Derived.Laws.BitsLemmas
import Derived.RowKit
import Derived.Test.YtcaijkkinkdfjaaWWords
import Derived.Test.YtcaijkkinkdfjaaWLast
import Derived.Test.YtcaijkkinkdfjaaWTab
import Derived.Test.YtcaijkkinkdfjaaWFour
import Derived.Test.YtcaijkkinkdfjaaWQPut
import Derived.Test.YtcaijkkinkdfjaaWApart
import Derived.Test.YtcaijkkinkdfjaaWArr
import Derived.Test.YtcaijkkinkdfjaaWZeros
import Derived.Test.YtcaijkkinkdfjaaWFoot
import Derived.Test.YtcaijkkinkdfjaaWKept
import Derived.Test.YtcaijkkinkdfjaaWShare
import Derived.Test.YtcaijkkinkdfjaaWN
import Derived.Test.YtcaijkkinkdfjaaWFootNe
import Derived.Test.YtcaijkkinkdfjaaWAt
import Derived.Test.YtcaijkkinkdfjaaWEqStruct
import Derived.Test.YtcaijkkinkdfjaaWRepsOne
import Derived.Test.YtcaijkkinkdfjaaWInv
import Derived.Test.YtcaijkkinkdfjaaWInvWords
import Derived.Test.YtcaijkkinkdfjaaWGuard
import Derived.Test.YtcaijkkinkdfjaaWNEv
import Derived.Test.YtcaijkkinkdfjaaWMore
namespace Go.Proofs.Ytcaijkkinkdfjaa.PSpaceNames
open Go.RowKit Go.Proofs.YtcaijkkinkdfjaaW.PrintWords Go.Proofs.YtcaijkkinkdfjaaW.PrintLast Go.Proofs.YtcaijkkinkdfjaaW.PrintMore
attribute [local go_sem] max2_int min2_int max_two min_two max_three min_three max_four min_four   -- for this text's walks alone
set_option linter.unusedVariables false
set_option linter.unusedSimpArgs false



def errW : Option Int → Value
  | none => .nilIface
  | some c => .iface 0 (.int .i64 c)
theorem errW_none : errW none = .nilIface := rfl
theorem errW_some (c : Int) : errW (some c) = .iface 0 (.int .i64 c) := rfl

-- the values' own types

end Go.Proofs.Ytcaijkkinkdfjaa.PSpaceNames
