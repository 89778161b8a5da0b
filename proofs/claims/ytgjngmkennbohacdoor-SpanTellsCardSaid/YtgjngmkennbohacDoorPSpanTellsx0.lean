-- MADE BY xprint.py of this repository, out of the seat's translation, by the kit's print and this repository's hands
import Derived.Test.YtgjngmkennbohacDoorProg
import Derived.Below
import Derived.Deep.Draws
import Derived.Deep.AppendLies
import Derived.Maps.AppendAt
import Derived.OwnWalk
import Derived.Laws.BytesArg
import Derived.Laws.MakeOwn
import Derived.Laws.OwnMore
import Derived.Deep.OwnRows
import Derived.Tactics
import Derived.Lib.ConvBytes
import Derived.Laws.Slices
import Derived.WalkKit
import Derived.KernelRfl
import Derived.RowKit3
import Derived.Deep.LoopGhost
import Derived.Deep.QuietTactic
import Derived.BigQuiet
import Derived.WideLaws
import Derived.Deep.DeepCutAuto
import Derived.Deep.CutBlock
import Derived.Deep.RegionHeld3
import Derived.Laws.Rows
import Derived.Lib.AppendStr
import Derived.ArgAppend
import Derived.Laws.IdiomCopy
import Derived.OrdersHeld
import Derived.Laws.BitsLemmas
import Derived.RowKit
import Derived.Test.YtgjngmkennbohacDoorHand
import Derived.Ground.NamesProg
import Derived.Shelf.Lay
import Derived.Shelf.Small.Strs
import Derived.Shelf.Strings.SlTrimAscii
import Derived.Test.YtgjngmkennbohacDoorHand
import Derived.Test.YtgjngmkennbohacDoorWWords
import Derived.Test.YtgjngmkennbohacDoorWLast
import Derived.Test.YtgjngmkennbohacDoorWTab
import Derived.Test.YtgjngmkennbohacDoorWFour
import Derived.Test.YtgjngmkennbohacDoorWQPut
import Derived.Test.YtgjngmkennbohacDoorWApart
import Derived.Test.YtgjngmkennbohacDoorWArr
import Derived.Test.YtgjngmkennbohacDoorWZeros
import Derived.Test.YtgjngmkennbohacDoorWFoot
import Derived.Test.YtgjngmkennbohacDoorWKept
import Derived.Test.YtgjngmkennbohacDoorWShare
import Derived.Test.YtgjngmkennbohacDoorWN
import Derived.Test.YtgjngmkennbohacDoorWFootNe
import Derived.Test.YtgjngmkennbohacDoorWAt
import Derived.Test.YtgjngmkennbohacDoorWEqStruct
import Derived.Test.YtgjngmkennbohacDoorWRepsOne
import Derived.Test.YtgjngmkennbohacDoorWInv
import Derived.Test.YtgjngmkennbohacDoorWInvWords
import Derived.Test.YtgjngmkennbohacDoorWGuard
import Derived.Test.YtgjngmkennbohacDoorWNEv
import Derived.Test.YtgjngmkennbohacDoorWMore
namespace Go.Proofs.YtgjngmkennbohacDoor.PSpanTells
open Go.RowKit Go.Proofs.YtgjngmkennbohacDoorW.PrintWords Go.Proofs.YtgjngmkennbohacDoorW.PrintLast Go.Proofs.YtgjngmkennbohacDoorW.PrintMore
attribute [local go_sem] max2_int min2_int max_two min_two max_three min_three max_four min_four   -- for this text's walks alone
set_option linter.unusedVariables false
set_option linter.unusedSimpArgs false



def errW : Option Int → Value
  | none => .nilIface
  | some c => .iface 0 (.int .i64 c)
theorem errW_none : errW none = .nilIface := rfl
theorem errW_some (c : Int) : errW (some c) = .iface 0 (.int .i64 c) := rfl

theorem info9 : (Tryd.prog.info? 9).map (fun i => (i.zero, i.size, i.bytes)) = some (some (.string ⟨#[]⟩), 1, 16) := by kernel_rfl
-- the values' own types

end Go.Proofs.YtgjngmkennbohacDoor.PSpanTells
