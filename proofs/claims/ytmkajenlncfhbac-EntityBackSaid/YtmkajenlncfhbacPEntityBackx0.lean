-- MADE BY xprint.py of this repository, out of the seat's translation, by the kit's print and this repository's hands
import Derived.Test.YtmkajenlncfhbacProg
import Derived.WalkMore
import Derived.Below
import Derived.Deep.Draws
import Derived.Deep.AppendLies
import Derived.Maps.AppendAt
import Derived.OwnWalk
import Derived.Laws.BytesArg
import Derived.Laws.MakeOwn
import Derived.Laws.OwnMore
import Derived.Deep.OwnRows
import Derived.Tactics
import Derived.Lib.ConvBytes
import Derived.Laws.Slices
import Derived.WalkKit
import Derived.KernelRfl
import Derived.RowKit3
import Derived.Deep.LoopGhost
import Derived.Deep.QuietTactic
import Derived.BigQuiet
import Derived.WideLaws
import Derived.Deep.DeepCutAuto
import Derived.Deep.CutBlock
import Derived.Deep.RegionHeld3
import Derived.Laws.Rows
import Derived.Lib.AppendStr
import Derived.ArgAppend
import Derived.Laws.IdiomCopy
import Derived.OrdersHeld
import Derived.Laws.BitsLemmas
import Derived.RowKit
import Derived.Test.YtmkajenlncfhbacHand
import Derived.Ground.NamesProg
import Derived.Shelf.Small.Strs
import Derived.Shelf.Strings.Builder1
import Derived.Shelf.Strings.Search2
import Derived.Test.YtmkajenlncfhbacWWords
import Derived.Test.YtmkajenlncfhbacWLast
import Derived.Test.YtmkajenlncfhbacWTab
import Derived.Test.YtmkajenlncfhbacWFour
import Derived.Test.YtmkajenlncfhbacWQPut
import Derived.Test.YtmkajenlncfhbacWApart
import Derived.Test.YtmkajenlncfhbacWArr
import Derived.Test.YtmkajenlncfhbacWZeros
import Derived.Test.YtmkajenlncfhbacWFoot
import Derived.Test.YtmkajenlncfhbacWKept
import Derived.Test.YtmkajenlncfhbacWShare
import Derived.Test.YtmkajenlncfhbacWN
import Derived.Test.YtmkajenlncfhbacWFootNe
import Derived.Test.YtmkajenlncfhbacWAt
import Derived.Test.YtmkajenlncfhbacWEqStruct
import Derived.Test.YtmkajenlncfhbacWRepsOne
import Derived.Test.YtmkajenlncfhbacWInv
import Derived.Test.YtmkajenlncfhbacWInvWords
import Derived.Test.YtmkajenlncfhbacWGuard
import Derived.Test.YtmkajenlncfhbacWNEv
import Derived.Test.YtmkajenlncfhbacWMore
namespace Go.Proofs.Ytmkajenlncfhbac.PEntityBack
open Go.RowKit Go.Proofs.YtmkajenlncfhbacW.PrintWords Go.Proofs.YtmkajenlncfhbacW.PrintLast Go.Proofs.YtmkajenlncfhbacW.PrintMore
attribute [local go_sem] max2_int min2_int max_two min_two max_three min_three max_four min_four   -- for this text's walks alone
set_option linter.unusedVariables false
set_option linter.unusedSimpArgs false



def errW : Option Int → Value
  | none => .nilIface
  | some c => .iface 0 (.int .i64 c)
theorem errW_none : errW none = .nilIface := rfl
theorem errW_some (c : Int) : errW (some c) = .iface 0 (.int .i64 c) := rfl

theorem info5 : (Try.prog.info? 5).map (fun i => (i.zero, i.size, i.bytes)) = some (some (.int .u8 0), 1, 1) := by kernel_rfl
-- the values' own types

end Go.Proofs.Ytmkajenlncfhbac.PEntityBack
