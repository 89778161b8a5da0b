-- MADE BY xprint.py of this repository, out of the seat's translation, by the kit's print and this repository's hands
import Derived.Test.YtbncdnkleodciaaProg
import Derived.Below
import Derived.Deep.Draws
import Derived.Deep.AppendLies
import Derived.Maps.AppendAt
import Derived.OwnWalk
import Derived.Laws.BytesArg
import Derived.Laws.MakeOwn
import Derived.Laws.OwnMore
import Derived.Deep.OwnRows
import Derived.Tactics
import Derived.Lib.ConvBytes
import Derived.Laws.Slices
import Derived.WalkKit
import Derived.KernelRfl
import Derived.RowKit3
import Derived.Deep.LoopGhost
import Derived.Deep.QuietTactic
import Derived.BigQuiet
import Derived.WideLaws
import Derived.Deep.DeepCutAuto
import Derived.Deep.CutBlock
import Derived.Deep.RegionHeld3
import Derived.Laws.Rows
import Derived.Lib.AppendStr
import Derived.ArgAppend
import Derived.Laws.IdiomCopy
import Derived.OrdersHeld
import Derived.Laws.BitsLemmas
import Derived.RowKit
import Derived.Test.YtbncdnkleodciaaHand
import Derived.Test.YtbncdnkleodciaaWWords
import Derived.Test.YtbncdnkleodciaaWLast
import Derived.Test.YtbncdnkleodciaaWTab
import Derived.Test.YtbncdnkleodciaaWFour
import Derived.Test.YtbncdnkleodciaaWQPut
import Derived.Test.YtbncdnkleodciaaWApart
import Derived.Test.YtbncdnkleodciaaWArr
import Derived.Test.YtbncdnkleodciaaWZeros
import Derived.Test.YtbncdnkleodciaaWFoot
import Derived.Test.YtbncdnkleodciaaWKept
import Derived.Test.YtbncdnkleodciaaWShare
import Derived.Test.YtbncdnkleodciaaWN
import Derived.Test.YtbncdnkleodciaaWFootNe
import Derived.Test.YtbncdnkleodciaaWAt
import Derived.Test.YtbncdnkleodciaaWEqStruct
import Derived.Test.YtbncdnkleodciaaWRepsOne
import Derived.Test.YtbncdnkleodciaaWInv
import Derived.Test.YtbncdnkleodciaaWInvWords
import Derived.Test.YtbncdnkleodciaaWGuard
import Derived.Test.YtbncdnkleodciaaWNEv
import Derived.Test.YtbncdnkleodciaaWMore
namespace Go.Proofs.Ytbncdnkleodciaa.PNumTexts
open Go.RowKit Go.Proofs.YtbncdnkleodciaaW.PrintWords Go.Proofs.YtbncdnkleodciaaW.PrintLast Go.Proofs.YtbncdnkleodciaaW.PrintMore
attribute [local go_sem] max2_int min2_int max_two min_two max_three min_three max_four min_four   -- for this text's walks alone
set_option linter.unusedVariables false
set_option linter.unusedSimpArgs false



def errW : Option Int → Value
  | none => .nilIface
  | some c => .iface 0 (.int .i64 c)
theorem errW_none : errW none = .nilIface := rfl
theorem errW_some (c : Int) : errW (some c) = .iface 0 (.int .i64 c) := rfl

-- the values' own types

end Go.Proofs.Ytbncdnkleodciaa.PNumTexts
