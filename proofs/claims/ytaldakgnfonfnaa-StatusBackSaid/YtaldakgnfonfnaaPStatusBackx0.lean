-- MADE BY xprint.py of this repository, out of the seat's translation, by the kit's print and this repository's hands
import Derived.Test.YtaldakgnfonfnaaProg
import Derived.WalkMore
import Derived.Below
import Derived.Deep.Draws
import Derived.Deep.AppendLies
import Derived.Maps.AppendAt
import Derived.OwnWalk
import Derived.Laws.BytesArg
import Derived.Laws.MakeOwn
import Derived.Laws.OwnMore
import Derived.Deep.OwnRows
import Derived.Tactics
import Derived.Lib.ConvBytes
import Derived.Laws.Slices
import Derived.WalkKit
import Derived.KernelRfl
import Derived.RowKit3
import Derived.Deep.LoopGhost
import Derived.Deep.QuietTactic
import Derived.BigQuiet
import Derived.WideLaws
import Derived.Deep.DeepCutAuto
import Derived.Deep.CutBlock
import Derived.Deep.RegionHeld3
import Derived.Laws.Rows
import Derived.Lib.AppendStr
import Derived.ArgAppend
import Derived.Laws.IdiomCopy
import Derived.OrdersHeld
import Derived.Laws.BitsLemmas
import Derived.RowKit
import Derived.Test.YtaldakgnfonfnaaHand
import Derived.Ground.NamesProg
import Derived.Shelf.Small.Strs
import Derived.Shelf.Strings.Shaped
import Derived.Test.YtaldakgnfonfnaaHand
import Derived.Test.YtaldakgnfonfnaaWWords
import Derived.Test.YtaldakgnfonfnaaWLast
import Derived.Test.YtaldakgnfonfnaaWTab
import Derived.Test.YtaldakgnfonfnaaWFour
import Derived.Test.YtaldakgnfonfnaaWQPut
import Derived.Test.YtaldakgnfonfnaaWApart
import Derived.Test.YtaldakgnfonfnaaWArr
import Derived.Test.YtaldakgnfonfnaaWZeros
import Derived.Test.YtaldakgnfonfnaaWFoot
import Derived.Test.YtaldakgnfonfnaaWKept
import Derived.Test.YtaldakgnfonfnaaWShare
import Derived.Test.YtaldakgnfonfnaaWN
import Derived.Test.YtaldakgnfonfnaaWFootNe
import Derived.Test.YtaldakgnfonfnaaWAt
import Derived.Test.YtaldakgnfonfnaaWEqStruct
import Derived.Test.YtaldakgnfonfnaaWRepsOne
import Derived.Test.YtaldakgnfonfnaaWInv
import Derived.Test.YtaldakgnfonfnaaWInvWords
import Derived.Test.YtaldakgnfonfnaaWGuard
import Derived.Test.YtaldakgnfonfnaaWNEv
import Derived.Test.YtaldakgnfonfnaaWMore
namespace Go.Proofs.Ytaldakgnfonfnaa.PStatusBack
open Go.RowKit Go.Proofs.YtaldakgnfonfnaaW.PrintWords Go.Proofs.YtaldakgnfonfnaaW.PrintLast Go.Proofs.YtaldakgnfonfnaaW.PrintMore
attribute [local go_sem] max2_int min2_int max_two min_two max_three min_three max_four min_four   -- for this text's walks alone
set_option linter.unusedVariables false
set_option linter.unusedSimpArgs false



def errW : Option Int → Value
  | none => .nilIface
  | some c => .iface 0 (.int .i64 c)
theorem errW_none : errW none = .nilIface := rfl
theorem errW_some (c : Int) : errW (some c) = .iface 0 (.int .i64 c) := rfl

-- the values' own types

end Go.Proofs.Ytaldakgnfonfnaa.PStatusBack
