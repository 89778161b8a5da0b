/-
  DERIVED. GIVEN WITH THE SEED: THE CARDS: each row of YtpmcogaklhlakabDoorRows.lean that lists a variable, with what it lists TIED to the program's text (the seventh form; the later family's looks); each row that meets fmt, with fmt's text TOLD by the authors' own Lean function (tested against real Go, not proved from fmt's source: count such statements apart). THE CARD IS WHAT COUNTS. Prove the row's statement (the work); the ties are given (YtpmcogaklhlakabDoorTie.lean); close each card by the builder's one call (the guide's Derived/Test/ToyasCard.lean, 'card_holds'). Laid BY PROGRAM, IN A SANDBOX (cutbox-door.mjs). By AI agents, Wed Nov 11 2026. No macro, syntax, notation, axiom, sorry.
-/
import Derived.Test.YtpmcogaklhlakabDoorRows
import GoSem.ClaimSeven
namespace Go.Proofs.YtpmcogaklhlakabDoor
namespace Rows

/-- THE TIED CARD OF 'newsreellaw44.PlanTells'. -/
def planTellsCard : Claim7 := { stood := { row := planTellsRow, standIns := [], harness := (true, "9d24b8a1d93479b76e8fcb94092f123821e45ceb2b0b4c43ac247ee52f21c000"), looks := false }, kinds := [], alts := [], laidByText := true, laidKinds := [.data, .pinned], laidTests := true, laidLooks := .later }
def PlanTellsCardSaid : Prop := Claim7.holds Tryd.pinned (.plain (OpenSpec.ofChange planTellsSpec)) planTellsCard

/-- THE TIED CARD OF 'newsreellaw44.PlanAsks'. -/
def planAsksCard : Claim7 := { stood := { row := planAsksRow, standIns := [], harness := (true, "9d24b8a1d93479b76e8fcb94092f123821e45ceb2b0b4c43ac247ee52f21c000"), looks := false }, kinds := [], alts := [], laidByText := true, laidKinds := [.data, .pinned], laidTests := true, laidLooks := .later }
def PlanAsksCardSaid : Prop := Claim7.holds Tryd.pinned (.plain (OpenSpec.ofChange planAsksSpec)) planAsksCard

/-- THE SECOND FORM's CARD OF 'newsreellaw44.PlanTells'. -/
def planTellsUptoCard : Claim7 := { stood := { row := planTellsUptoRow, standIns := [], harness := (true, "9d24b8a1d93479b76e8fcb94092f123821e45ceb2b0b4c43ac247ee52f21c000"), looks := false }, kinds := [], alts := [], laidByText := true, laidKinds := [.data, .pinned], laidTests := true, laidLooks := .later }
def PlanTellsUptoCardSaid : Prop := Claim7.holds Tryd.pinned (.plain (OpenSpec.upto planTellsSpec)) planTellsUptoCard

/-- THE SECOND FORM's CARD OF 'newsreellaw44.PlanAsks'. -/
def planAsksUptoCard : Claim7 := { stood := { row := planAsksUptoRow, standIns := [], harness := (true, "9d24b8a1d93479b76e8fcb94092f123821e45ceb2b0b4c43ac247ee52f21c000"), looks := false }, kinds := [], alts := [], laidByText := true, laidKinds := [.data, .pinned], laidTests := true, laidLooks := .later }
def PlanAsksUptoCardSaid : Prop := Claim7.holds Tryd.pinned (.plain (OpenSpec.upto planAsksSpec)) planAsksUptoCard
end Rows
end Go.Proofs.YtpmcogaklhlakabDoor
