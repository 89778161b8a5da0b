-- MADE BY xprint.py of this repository, out of the seat's translation, by the kit's print and this repository's hands
import Derived.Test.YtfeoabdpgebkkaaDoorProg
import Derived.WalkMore
import Derived.Below
import Derived.Deep.Draws
import Derived.Deep.AppendLies
import Derived.Maps.AppendAt
import Derived.OwnWalk
import Derived.Laws.BytesArg
import Derived.Laws.MakeOwn
import Derived.Laws.OwnMore
import Derived.Deep.OwnRows
import Derived.Tactics
import Derived.Lib.ConvBytes
import Derived.Laws.Slices
import Derived.WalkKit
import Derived.KernelRfl
import Derived.RowKit3
import Derived.Deep.LoopGhost
import Derived.Deep.QuietTactic
import Derived.BigQuiet
import Derived.WideLaws
import Derived.Deep.DeepCutAuto
import Derived.Deep.CutBlock
import Derived.Deep.RegionHeld3
import Derived.Laws.Rows
import Derived.Lib.AppendStr
import Derived.ArgAppend
import Derived.Laws.IdiomCopy
import Derived.OrdersHeld
import Derived.Laws.BitsLemmas
import Derived.RowKit
import Derived.Test.YtfeoabdpgebkkaaDoorHand
import Derived.Test.YtfeoabdpgebkkaaDoorSq
import Derived.Test.YtfeoabdpgebkkaaDoorHand2
import Derived.Ground.NamesProg
import Derived.IntWalk
import Derived.Laws.CopyOwn
import Derived.Lib.LaidTab
import Derived.Shelf.Strings.Builder1
import Derived.StillTailTactics
import Derived.Stop.BytesEq
import Derived.Test.YtfeoabdpgebkkaaDoorFamB
import Derived.Test.YtfeoabdpgebkkaaDoorKit
import Derived.Test.YtfeoabdpgebkkaaDoorWWords
import Derived.Test.YtfeoabdpgebkkaaDoorWLast
import Derived.Test.YtfeoabdpgebkkaaDoorWTab
import Derived.Test.YtfeoabdpgebkkaaDoorWFour
import Derived.Test.YtfeoabdpgebkkaaDoorWQPut
import Derived.Test.YtfeoabdpgebkkaaDoorWApart
import Derived.Test.YtfeoabdpgebkkaaDoorWArr
import Derived.Test.YtfeoabdpgebkkaaDoorWZeros
import Derived.Test.YtfeoabdpgebkkaaDoorWFoot
import Derived.Test.YtfeoabdpgebkkaaDoorWKept
import Derived.Test.YtfeoabdpgebkkaaDoorWShare
import Derived.Test.YtfeoabdpgebkkaaDoorWN
import Derived.Test.YtfeoabdpgebkkaaDoorWFootNe
import Derived.Test.YtfeoabdpgebkkaaDoorWAt
import Derived.Test.YtfeoabdpgebkkaaDoorWEqStruct
import Derived.Test.YtfeoabdpgebkkaaDoorWRepsOne
import Derived.Test.YtfeoabdpgebkkaaDoorWInv
import Derived.Test.YtfeoabdpgebkkaaDoorWInvWords
import Derived.Test.YtfeoabdpgebkkaaDoorWGuard
import Derived.Test.YtfeoabdpgebkkaaDoorWNEv
import Derived.Test.YtfeoabdpgebkkaaDoorWMore
namespace Go.Proofs.YtfeoabdpgebkkaaDoor.PShaLengths
open Go.RowKit Go.Proofs.YtfeoabdpgebkkaaDoorW.PrintWords Go.Proofs.YtfeoabdpgebkkaaDoorW.PrintLast Go.Proofs.YtfeoabdpgebkkaaDoorW.PrintMore
attribute [local go_sem] max2_int min2_int max_two min_two max_three min_three max_four min_four   -- for this text's walks alone
set_option linter.unusedVariables false
set_option linter.unusedSimpArgs false



def errW : Option Int → Value
  | none => .nilIface
  | some c => .iface 0 (.int .i64 c)
theorem errW_none : errW none = .nilIface := rfl
theorem errW_some (c : Int) : errW (some c) = .iface 0 (.int .i64 c) := rfl

theorem info5 : (Tryd.prog.info? 5).map (fun i => (i.zero, i.size, i.bytes)) = some (some (.int .u8 0), 1, 1) := by kernel_rfl
theorem info37 : (Tryd.prog.info? 37).map (fun i => (i.zero, i.size, i.bytes)) = some (some (.int .u64 0), 1, 8) := by kernel_rfl
end Go.Proofs.YtfeoabdpgebkkaaDoor.PShaLengths

